/-
  FBars: when numbers are bars of a basket: (impl.Basket).areBars, spec.l03Code.
-/
import Derived.Test.YtbcomfobnhekpaaFBasket
import Derived.Test.YtbcomfobnhekpaaMore
namespace Go.Proofs.Ytbcomfobnhekpaa
open Go.RowKit
set_option linter.unusedVariables false
attribute [local go_sem ↓] Go.wp_at_zero Go.wp_at_succ
def BarsOk (x : TBasket) (xs : List Int) : Prop := xs.length ≤ 60 ∧ ∀ n ∈ xs, 0 ≤ n ∧ n ≤ x.1 - 1
instance decBarsOk (x : TBasket) (xs : List Int) : Decidable (BarsOk x xs) := inferInstanceAs (Decidable (_ ∧ _))
def M_l03Code (x : TBasket) (xs : List Int) : Int := if BasketOk x then (if BarsOk x xs then 0 else 2) else 1
set_option maxHeartbeats 1600000 in
theorem areBars_any (x : TBasket) (A : Option Addr) (c : Nat) (xs : List Int) (hxl : xs.length ≤ 1048576) (hk : ∀ n ∈ xs, I64 n) (h : BasketOk x) (w : World) (rx : Row w A encInt 1 xs) :
    Calls Try.prog 96 #[.agg #[.int .i64 x.1, .int .i64 x.2.1, .int .i64 x.2.2.1, .int .i64 x.2.2.2.1, .int .i64 x.2.2.2.2], .slice A xs.length c] w (RBb (BarsOk x xs) w) := by
  obtain ⟨W0, hW0⟩ : ∃ W0, W0 = w.alloc (.cells #[.int .i64 x.1, .int .i64 x.2.1, .int .i64 x.2.2.1, .int .i64 x.2.2.2.1, .int .i64 x.2.2.2.2] 32) := ⟨_, rfl⟩
  have hB0 : Below w.heap.size w W0 := by rw [hW0]; exact bal (Below.refl _ _) _
  have k0 : AtBasket W0 w.heap.size x := by rw [hW0]; exact AtBasket.new w _ x
  have HW := Lib.hid hW0
  clear hW0
  go_enter Try.func96, Try.ntmps96
  go_wp2_with fail
  rw [← HW.out]
  go_loopg [9] xs.length (fun g i wr => ∃ k : Nat, k ≤ xs.length ∧ g = xs.length - k ∧ (∀ n ∈ xs.take k, 0 ≤ n ∧ n ≤ x.1 - 1) ∧ Below W0.heap.size W0 wr ∧ i = .int .i64 k)
  case atStart => exact ⟨0, Nat.zero_le _, rfl, by simp, Below.refl _ _, rfl⟩
  case round =>
    obtain ⟨k, hkk, hg, htk, hbw, rfl⟩ := hrel
    have HG := Lib.hid hg
    have HT := Lib.hid htk
    have k1 := k0.next hbw
    clear hg htk k0
    by_cases hlt : k < xs.length
    · obtain ⟨b, off, rfl, hb, c0⟩ := (rx.below (bnext hB0 hbw)).at1 (f := fun n : Int => .int .i64 n) hlt
      by_cases a1 : 0 ≤ xs[k] ∧ xs[k] ≤ x.1 - 1
      · go_wp2_with (go_at_call 129; refine (RBb.yes (hasBar_any x h _ _) a1).mono ?_; rintro e w1 ⟨rfl, hb1⟩)
        go_roundg (xs.length - (k + 1))
        case measure => rw [HG.out]; omega
        case rel => exact ⟨k + 1, by omega, rfl, take_all_succ (P := fun n : Int => 0 ≤ n ∧ n ≤ x.1 - 1) hlt HT.out a1, bnext hbw hb1, by go_num⟩
      · go_wp2_with (go_at_call 129; refine (RBb.no (hasBar_any x h _ _) a1).mono ?_; rintro e w1 ⟨rfl, hb1⟩)
        go_ret
        exact RBb.mk (nott fun hh => a1 (hh.2 _ (List.getElem_mem hlt))) (bnext (bnext hB0 hbw) hb1)
    · have htk := HT.out
      rw [List.take_of_length_le (by omega)] at htk
      have HA := Lib.hid htk
      clear htk
      by_cases hl : xs.length ≤ 60
      · go_wp2
        go_ret
        exact RBb.mk (by rw [decide_eq_true_iff]; exact ⟨fun _ => ⟨hl, HA.out⟩, fun _ => by omega⟩) (bnext hB0 hbw)
      · go_wp2
        go_ret
        exact RBb.mk (by rw [decide_eq_true_iff]; exact ⟨fun h => absurd h (by omega), fun h => absurd h.1 hl⟩) (bnext hB0 hbw)
set_option maxHeartbeats 1600000 in
theorem l03Code_any (x : TBasket) (A : Option Addr) (c : Nat) (xs : List Int) (hxl : xs.length ≤ 1048576) (hk : ∀ n ∈ xs, I64 n) (w : World) (rx : Row w A encInt 1 xs) :
    Calls Try.prog 94 #[.agg #[.int .i64 x.1, .int .i64 x.2.1, .int .i64 x.2.2.1, .int .i64 x.2.2.2.1, .int .i64 x.2.2.2.2], .slice A xs.length c] w (RI1 (M_l03Code x xs) w) := by
  obtain ⟨W0, hW0⟩ : ∃ W0, W0 = w.alloc (.cells #[.int .i64 x.1, .int .i64 x.2.1, .int .i64 x.2.2.1, .int .i64 x.2.2.2.1, .int .i64 x.2.2.2.2] 32) := ⟨_, rfl⟩
  have hB0 : Below w.heap.size w W0 := by rw [hW0]; exact bal (Below.refl _ _) _
  have k0 : AtBasket W0 w.heap.size x := by rw [hW0]; exact AtBasket.new w _ x
  have HW := Lib.hid hW0
  clear hW0
  by_cases h : BasketOk x
  case neg =>
    have HM := Lib.hid (show M_l03Code x xs = 1 by unfold M_l03Code; rw [if_neg h])
    go_enter Try.func94, Try.ntmps94
    go_wp2_with fail
    rw [← HW.out]
    refine (RBb.no (l03Ok_any x _) h).mono ?_; rintro e w1 ⟨rfl, hb1⟩
    go_wp2_with fail
    go_ret
    exact RI1.mk HM.out.symm (bnext hB0 hb1)
  go_enter Try.func94, Try.ntmps94
  go_wp2_with fail
  rw [← HW.out]
  refine (RBb.yes (l03Ok_any x _) h).mono ?_; rintro e w1 ⟨rfl, hb1⟩
  have k1 := k0.next hb1
  have hB1 := bnext hB0 hb1
  clear k0
  go_wp2_with fail
  go_loopg [5] xs.length (fun g i wr => ∃ k : Nat, k ≤ xs.length ∧ g = xs.length - k ∧ (∀ n ∈ xs.take k, 0 ≤ n ∧ n ≤ x.1 - 1) ∧ Below w1.heap.size w1 wr ∧ i = .int .i64 k)
  case atStart => exact ⟨0, Nat.zero_le _, rfl, by simp, Below.refl _ _, rfl⟩
  case round =>
    obtain ⟨k, hkk, hg, htk, hbw, rfl⟩ := hrel
    have HG := Lib.hid hg
    have HT := Lib.hid htk
    have k2 := k1.next hbw
    clear hg htk k1
    by_cases hlt : k < xs.length
    · obtain ⟨b, off, rfl, hb, c0⟩ := (rx.below (bnext hB1 hbw)).at1 (f := fun n : Int => .int .i64 n) hlt
      have i1 : (0 : Int) ≤ (k : Int) := by omega
      have i2 : (k : Int) < (xs.length : Int) := by omega
      by_cases a1 : 0 ≤ xs[k] ∧ xs[k] ≤ x.1 - 1
      · go_wp2
        go_region_held3 (fun w' => (w'.cell? ⟨w.heap.size, 0, none⟩ = some (.int .i64 x.1) ∧ w'.cell? ⟨w.heap.size, 1, none⟩ = some (.int .i64 x.2.1) ∧ w'.cell? ⟨w.heap.size, 2, none⟩ = some (.int .i64 x.2.2.1) ∧ w'.cell? ⟨w.heap.size, 3, none⟩ = some (.int .i64 x.2.2.2.1) ∧ w'.cell? ⟨w.heap.size, 4, none⟩ = some (.int .i64 x.2.2.2.2)) ∧ w'.cell? ⟨b, off + k, none⟩ = some (.int .i64 xs[k])) (first | exact ⟨k2.2, c0⟩ | exact ⟨(k2.next (bundrew hb2)).2, (hb2.cell (p := ⟨b, _, none⟩) hb).trans c0⟩) (first | (go_at_call 127; refine (RBb.yes (l03Bar_any x h _ _) a1).mono ?_; rintro e w2 ⟨rfl, hb2⟩))
        have hb3 := bundrew hb2
        go_wp2
        go_roundg (xs.length - (k + 1))
        case measure => rw [HG.out]; omega
        case rel => exact ⟨k + 1, by omega, rfl, take_all_succ (P := fun n : Int => 0 ≤ n ∧ n ≤ x.1 - 1) hlt HT.out a1, bnext hbw hb3, by go_num⟩
      · have HM := Lib.hid (show M_l03Code x xs = 2 by unfold M_l03Code; rw [if_pos h, if_neg (fun hh => a1 (hh.2 _ (List.getElem_mem hlt)))])
        go_wp2
        go_region_held3 (fun w' => (w'.cell? ⟨w.heap.size, 0, none⟩ = some (.int .i64 x.1) ∧ w'.cell? ⟨w.heap.size, 1, none⟩ = some (.int .i64 x.2.1) ∧ w'.cell? ⟨w.heap.size, 2, none⟩ = some (.int .i64 x.2.2.1) ∧ w'.cell? ⟨w.heap.size, 3, none⟩ = some (.int .i64 x.2.2.2.1) ∧ w'.cell? ⟨w.heap.size, 4, none⟩ = some (.int .i64 x.2.2.2.2)) ∧ w'.cell? ⟨b, off + k, none⟩ = some (.int .i64 xs[k])) (first | exact ⟨k2.2, c0⟩ | exact ⟨(k2.next (bundrew hb2)).2, (hb2.cell (p := ⟨b, _, none⟩) hb).trans c0⟩) (first | (go_at_call 127; refine (RBb.no (l03Bar_any x h _ _) a1).mono ?_; rintro e w2 ⟨rfl, hb2⟩))
        have hb3 := bundrew hb2
        go_wp2
        go_ret
        exact RI1.mk HM.out.symm (bnext (bnext hB1 hbw) hb3)
    · have htk := HT.out
      rw [List.take_of_length_le (by omega)] at htk
      by_cases hl : xs.length ≤ 60
      · have HM := Lib.hid (show M_l03Code x xs = 0 by unfold M_l03Code; rw [if_pos h, if_pos ⟨hl, htk⟩])
        clear htk
        go_wp2
        go_ret
        exact RI1.mk HM.out.symm (bnext hB1 hbw)
      · have HM := Lib.hid (show M_l03Code x xs = 2 by unfold M_l03Code; rw [if_pos h, if_neg (fun hh => hl hh.1)])
        clear htk
        go_wp2
        go_ret
        exact RI1.mk HM.out.symm (bnext hB1 hbw)
end Go.Proofs.Ytbcomfobnhekpaa
