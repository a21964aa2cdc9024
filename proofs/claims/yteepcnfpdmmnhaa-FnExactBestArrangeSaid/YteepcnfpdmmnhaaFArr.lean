/-
  FArr: when places are an arrangement: spec.l00Has, l05Places, l05Code; impl.arranges, arrangeCode.
-/
import Derived.Test.YteepcnfpdmmnhaaFPairs
import Derived.Test.YteepcnfpdmmnhaaFStrokes
import Derived.Test.YteepcnfpdmmnhaaMaps
import Derived.Carry
namespace Go.Proofs.Yteepcnfpdmmnhaa
open Go.RowKit
set_option linter.unusedVariables false
set_option linter.unusedSimpArgs false
attribute [local go_sem ↓] Go.wp_at_zero Go.wp_at_succ
section
variable {α : Type} {w : World} {A : Option Addr} {e : α → List Value} {s : Nat} {xs : List α}
theorem Row.take (h : Row w A e s xs) (k : Nat) : Row w A e s (xs.take k) := by
  intro hne
  obtain ⟨b, off, hA, hlt, hc⟩ := h (by intro h0; subst h0; simp at hne)
  refine ⟨b, off, hA, hlt, fun j x hx => hc j x ?_⟩
  rw [List.getElem?_take] at hx
  split at hx
  · exact hx
  · cases hx
theorem own_cap {base n c : Nat} {E : TypeId} (h : Own w base E e s (.slice A n c) xs) : n ≤ c := by
  rcases h.2.2 with ⟨hv, _⟩ | ⟨g, cap, cs, hv, _, _, hn, _⟩
  · injection hv with h1 h2 h3; omega
  · injection hv with h1 h2 h3; omega
end
/-- The first k places are bars, each another one. -/
def PlacesUp (x : TBasket) (ps : List Int) (k : Nat) : Prop := ∀ j (h : j < ps.length), j < k → (0 ≤ ps[j] ∧ ps[j] ≤ x.1 - 1) ∧ ps[j] ∉ ps.take j
def Places (x : TBasket) (ps : List Int) : Prop := PlacesUp x ps ps.length
theorem placesUp_succ {x : TBasket} {ps : List Int} {k : Nat} (hk : k < ps.length) (h : PlacesUp x ps k) (h1 : 0 ≤ ps[k] ∧ ps[k] ≤ x.1 - 1) (h2 : ps[k] ∉ ps.take k) : PlacesUp x ps (k + 1) := by
  intro j hj hjk
  rcases Nat.lt_succ_iff_lt_or_eq.1 hjk with h3 | h3
  · exact h j hj h3
  · subst h3; exact ⟨h1, h2⟩
def ArrOk (x : TBasket) (ps : List Int) (lo hi : Int) : Prop := (lo ≤ (ps.length : Int) ∧ (ps.length : Int) ≤ hi) ∧ Places x ps
open Classical in
noncomputable def arrCode (x : TBasket) (xs : List (List Int)) (ps : List Int) : Int := if BasketOk x ∧ PairsOk xs then (if ps.length = xs.length ∧ Places x ps then 0 else 2) else 1
theorem arrCode_bd (x : TBasket) (xs : List (List Int)) (ps : List Int) : 0 ≤ arrCode x xs ps ∧ arrCode x xs ps ≤ 2 := by
  unfold arrCode
  split
  · split <;> omega
  · omega
def ArrAll (x : TBasket) (xs : List (List Int)) (ps : List Int) : Prop := (BasketOk x ∧ PairsOk xs) ∧ (ps.length = xs.length ∧ Places x ps)
theorem arrCode_zero {x : TBasket} {xs : List (List Int)} {ps : List Int} (h : ArrAll x xs ps) : arrCode x xs ps = 0 := by unfold arrCode; rw [if_pos h.1, if_pos h.2]
theorem arrCode_ne {x : TBasket} {xs : List (List Int)} {ps : List Int} (h : ¬ ArrAll x xs ps) : arrCode x xs ps ≠ 0 := by
  unfold arrCode
  split
  · split
    · exact absurd ⟨by assumption, by assumption⟩ h
    · omega
  · omega
set_option maxHeartbeats 1600000 in
theorem l00Has_any (A : Option Addr) (c m : Nat) (ys : List Int) (hm : ys.length = m) (hl : ys.length ≤ 1048576) (n : Int) (w : World) (rx : Row w A encInt 1 ys) :
    Calls Try.prog 138 #[.slice A m c, .int .i64 n] w (RB (n ∈ ys) w) := by
  subst hm
  go_enter Try.func138, Try.ntmps138
  go_wp2
  go_loop [5] (fun i => ∃ k : Nat, k ≤ ys.length ∧ n ∉ ys.take k ∧ i = .int .i64 k) (fun i => ys.length - (intOf i).toNat)
  case atStart => exact ⟨0, Nat.zero_le _, by simp, rfl⟩
  case round =>
    obtain ⟨k, hk, hnot, rfl⟩ := hrel
    have HN := Lib.hid hnot
    clear hnot
    by_cases hlt : k < ys.length
    · obtain ⟨b, off, hA, hbb, c0⟩ := rx.at1 (f := fun x : Int => .int .i64 x) hlt
      subst hA
      by_cases he : ys[k] = n
      · have te : ((ys[k] : Int) == n) = true := by rw [he]; simp
        have HE := Lib.hid he
        clear he
        go_wp2
        go_ret
        exact RB.mk (yest (by rw [← HE.out]; exact List.getElem_mem hlt))
      · have te : ((ys[k] : Int) == n) = false := by rw [beq_eq_false_iff_ne]; exact he
        have HE := Lib.hid he
        clear he
        go_wp2
        go_round
        case rel =>
          refine ⟨k + 1, by omega, ?_, by go_num⟩
          rw [List.take_succ_eq_append_getElem hlt]
          intro hm
          rcases List.mem_append.1 hm with h | h
          · exact HN.out h
          · simp at h; exact HE.out h.symm
        case measure => simp [intOf]; omega
    · have hN := HN.out
      rw [List.take_of_length_le (by omega)] at hN
      have HN2 := Lib.hid hN
      clear hN
      go_wp2
      go_ret
      exact RB.mk (nott HN2.out)
end Go.Proofs.Yteepcnfpdmmnhaa
