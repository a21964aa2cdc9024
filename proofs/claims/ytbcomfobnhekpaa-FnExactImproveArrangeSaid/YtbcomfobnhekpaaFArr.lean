/-
  FArr: when places are an arrangement: spec.l00Has, l05Places, l05Code; impl.arranges, arrangeCode.
-/
import Derived.Test.YtbcomfobnhekpaaFPairs
import Derived.Test.YtbcomfobnhekpaaFStrokes
import Derived.Test.YtbcomfobnhekpaaMaps
import Derived.Carry
namespace Go.Proofs.Ytbcomfobnhekpaa
open Go.RowKit
set_option linter.unusedVariables false
set_option linter.unusedSimpArgs false
attribute [local go_sem ↓] Go.wp_at_zero Go.wp_at_succ
section
variable {α : Type} {w : World} {A : Option Addr} {e : α → List Value} {s : Nat} {xs : List α}
theorem Row.take (h : Row w A e s xs) (k : Nat) : Row w A e s (xs.take k) := by
  intro hne
  obtain ⟨b, off, hA, hlt, hc⟩ := h (by intro h0; subst h0; simp at hne)
  refine ⟨b, off, hA, hlt, fun j x hx => hc j x ?_⟩
  rw [List.getElem?_take] at hx
  split at hx
  · exact hx
  · cases hx
theorem own_cap {base n c : Nat} {E : TypeId} (h : Own w base E e s (.slice A n c) xs) : n ≤ c := by
  rcases h.2.2 with ⟨hv, _⟩ | ⟨g, cap, cs, hv, _, _, hn, _⟩
  · injection hv with h1 h2 h3; omega
  · injection hv with h1 h2 h3; omega
end
/-- The first k places are bars, each another one. -/
def PlacesUp (x : TBasket) (ps : List Int) (k : Nat) : Prop := ∀ j (h : j < ps.length), j < k → (0 ≤ ps[j] ∧ ps[j] ≤ x.1 - 1) ∧ ps[j] ∉ ps.take j
def Places (x : TBasket) (ps : List Int) : Prop := PlacesUp x ps ps.length
theorem placesUp_succ {x : TBasket} {ps : List Int} {k : Nat} (hk : k < ps.length) (h : PlacesUp x ps k) (h1 : 0 ≤ ps[k] ∧ ps[k] ≤ x.1 - 1) (h2 : ps[k] ∉ ps.take k) : PlacesUp x ps (k + 1) := by
  intro j hj hjk
  rcases Nat.lt_succ_iff_lt_or_eq.1 hjk with h3 | h3
  · exact h j hj h3
  · subst h3; exact ⟨h1, h2⟩
def ArrOk (x : TBasket) (ps : List Int) (lo hi : Int) : Prop := (lo ≤ (ps.length : Int) ∧ (ps.length : Int) ≤ hi) ∧ Places x ps
open Classical in
noncomputable def arrCode (x : TBasket) (xs : List (List Int)) (ps : List Int) : Int := if BasketOk x ∧ PairsOk xs then (if ps.length = xs.length ∧ Places x ps then 0 else 2) else 1
theorem arrCode_bd (x : TBasket) (xs : List (List Int)) (ps : List Int) : 0 ≤ arrCode x xs ps ∧ arrCode x xs ps ≤ 2 := by
  unfold arrCode
  split
  · split <;> omega
  · omega
def ArrAll (x : TBasket) (xs : List (List Int)) (ps : List Int) : Prop := (BasketOk x ∧ PairsOk xs) ∧ (ps.length = xs.length ∧ Places x ps)
theorem arrCode_zero {x : TBasket} {xs : List (List Int)} {ps : List Int} (h : ArrAll x xs ps) : arrCode x xs ps = 0 := by unfold arrCode; rw [if_pos h.1, if_pos h.2]
theorem arrCode_ne {x : TBasket} {xs : List (List Int)} {ps : List Int} (h : ¬ ArrAll x xs ps) : arrCode x xs ps ≠ 0 := by
  unfold arrCode
  split
  · split
    · exact absurd ⟨by assumption, by assumption⟩ h
    · omega
  · omega
set_option maxHeartbeats 1600000 in
theorem l00Has_any (A : Option Addr) (c m : Nat) (ys : List Int) (hm : ys.length = m) (hl : ys.length ≤ 1048576) (n : Int) (w : World) (rx : Row w A encInt 1 ys) :
    Calls Try.prog 128 #[.slice A m c, .int .i64 n] w (RB (n ∈ ys) w) := by
  subst hm
  go_enter Try.func128, Try.ntmps128
  go_wp2
  go_loop [5] (fun i => ∃ k : Nat, k ≤ ys.length ∧ n ∉ ys.take k ∧ i = .int .i64 k) (fun i => ys.length - (intOf i).toNat)
  case atStart => exact ⟨0, Nat.zero_le _, by simp, rfl⟩
  case round =>
    obtain ⟨k, hk, hnot, rfl⟩ := hrel
    have HN := Lib.hid hnot
    clear hnot
    by_cases hlt : k < ys.length
    · obtain ⟨b, off, hA, hbb, c0⟩ := rx.at1 (f := fun x : Int => .int .i64 x) hlt
      subst hA
      by_cases he : ys[k] = n
      · have te : ((ys[k] : Int) == n) = true := by rw [he]; simp
        have HE := Lib.hid he
        clear he
        go_wp2
        go_ret
        exact RB.mk (yest (by rw [← HE.out]; exact List.getElem_mem hlt))
      · have te : ((ys[k] : Int) == n) = false := by rw [beq_eq_false_iff_ne]; exact he
        have HE := Lib.hid he
        clear he
        go_wp2
        go_round
        case rel =>
          refine ⟨k + 1, by omega, ?_, by go_num⟩
          rw [List.take_succ_eq_append_getElem hlt]
          intro hm
          rcases List.mem_append.1 hm with h | h
          · exact HN.out h
          · simp at h; exact HE.out h.symm
        case measure => simp [intOf]; omega
    · have hN := HN.out
      rw [List.take_of_length_le (by omega)] at hN
      have HN2 := Lib.hid hN
      clear hN
      go_wp2
      go_ret
      exact RB.mk (nott HN2.out)
set_option maxHeartbeats 6400000 in
set_option maxRecDepth 10000 in
theorem l05Places_any (x : TBasket) (hx : BasketOk x) (A : Option Addr) (c : Nat) (ps : List Int) (hpl : ps.length ≤ 1048576) (hcap : ps.length ≤ c) (w : World) (rx : Row w A encInt 1 ps) :
    Calls Try.prog 74 #[.agg #[.int .i64 x.1, .int .i64 x.2.1, .int .i64 x.2.2.1, .int .i64 x.2.2.2.1, .int .i64 x.2.2.2.2], .slice A ps.length c] w (RBb (ArrOk x ps 1 7) w) := by
  obtain ⟨W0, hW0⟩ : ∃ W0, W0 = w.alloc (.cells #[.int .i64 x.1, .int .i64 x.2.1, .int .i64 x.2.2.1, .int .i64 x.2.2.2.1, .int .i64 x.2.2.2.2] 32) := ⟨_, rfl⟩
  have hB0 : Below w.heap.size w W0 := by rw [hW0]; exact bal (Below.refl _ _) _
  have k0 : AtBasket W0 w.heap.size x := by rw [hW0]; exact AtBasket.new w _ x
  have HW := Lib.hid hW0
  clear hW0
  go_enter Try.func74, Try.ntmps74
  go_wp2_with fail
  rw [← HW.out]
  go_loopg [5] ps.length (fun g is wr => ∃ (k : Nat), k ≤ ps.length ∧ g = ps.length - k ∧ PlacesUp x ps k ∧ Below W0.heap.size W0 wr ∧ is = .int .i64 k)
  case atStart => exact ⟨0, Nat.zero_le _, rfl, fun j h hj => absurd hj (by omega), Below.refl _ _, rfl⟩
  case round =>
    obtain ⟨k, hkk, hg, hup, hbw, rfl⟩ := hrel
    have HG := Lib.hid hg
    have HUp := Lib.hid hup
    have k2 := k0.next hbw
    have hB2 := bnext hB0 hbw
    clear hg hup k0
    by_cases hlt : k < ps.length
    · obtain ⟨b, off, hA, hb, c0⟩ := (rx.below hB2).at1 (f := fun x : Int => .int .i64 x) hlt
      subst hA
      have i1 : (0 : Int) ≤ (k : Int) := by omega
      have i2 : (k : Int) < (ps.length : Int) := by omega
      have i3 : (k : Int) ≤ (c : Int) := by omega
      have i4 : k ≤ c := by omega
      by_cases a1 : 0 ≤ ps[k] ∧ ps[k] ≤ x.1 - 1
      · have rt := (rx.below hB2).take k
        have hlk : (ps.take k).length = k := by rw [List.length_take]; omega
        have hlm : (ps.take k).length ≤ 1048576 := by omega
        have HLK := Lib.hid hlk
        clear hlk
        by_cases hm : ps[k] ∈ ps.take k
        · have HM := Lib.hid hm
          go_wp2
          refine wp_region_held_drew (S := (fun w' => (w'.cell? ⟨w.heap.size, 0, none⟩ = some (.int .i64 x.1) ∧ w'.cell? ⟨w.heap.size, 1, none⟩ = some (.int .i64 x.2.1) ∧ w'.cell? ⟨w.heap.size, 2, none⟩ = some (.int .i64 x.2.2.1) ∧ w'.cell? ⟨w.heap.size, 3, none⟩ = some (.int .i64 x.2.2.2.1) ∧ w'.cell? ⟨w.heap.size, 4, none⟩ = some (.int .i64 x.2.2.2.2)) ∧ w'.cell? ⟨b, off + k, none⟩ = some (.int .i64 ps[k]))) (by kernel_rfl) ⟨k2.2, c0⟩ (fun hHeld => ?_)
          refine wpAnyH_take (i := 0) (v := ?_) rfl (by kernel_rfl) (by kernel_rfl) (by kernel_rfl) (fun _ _ _ h => h) (Or.inl ⟨by rfl, ?_⟩) (by assumption) ?_
          rotate_left
          · (intro w hSw; (try dsimp only at hSw); go_simp; try with_reducible rfl)
          try simp only [Act.put, List.getElem_toArray, List.getElem_cons_zero, List.getElem_cons_succ, List.setIfInBounds_toArray, List.set_cons_zero, List.set_cons_succ]
          refine wpAnyH_take (i := 1) (v := ?_) rfl (by kernel_rfl) (by kernel_rfl) (by kernel_rfl) (fun _ _ _ h => h) (Or.inl ⟨by rfl, ?_⟩) (by assumption) ?_
          rotate_left
          · (intro w hSw; (try dsimp only at hSw); go_simp; try with_reducible rfl)
          try simp only [Act.put, List.getElem_toArray, List.getElem_cons_zero, List.getElem_cons_succ, List.setIfInBounds_toArray, List.set_cons_zero, List.set_cons_succ]
          refine wpAnyH_take (i := 2) (v := ?_) rfl (by kernel_rfl) (by kernel_rfl) (by kernel_rfl) (fun _ _ _ h => h) (Or.inl ⟨by rfl, ?_⟩) (by assumption) ?_
          rotate_left
          · (intro w hSw; (try dsimp only at hSw); go_simp; try with_reducible rfl)
          try simp only [Act.put, List.getElem_toArray, List.getElem_cons_zero, List.getElem_cons_succ, List.setIfInBounds_toArray, List.set_cons_zero, List.set_cons_succ]
          refine wpAnyH_take (i := 3) (v := ?_) rfl (by kernel_rfl) (by kernel_rfl) (by kernel_rfl) (fun _ _ _ h => h) (Or.inl ⟨by rfl, ?_⟩) (by assumption) ?_
          rotate_left
          · (intro w hSw; (try dsimp only at hSw); go_simp; try with_reducible rfl)
          try simp only [Act.put, List.getElem_toArray, List.getElem_cons_zero, List.getElem_cons_succ, List.setIfInBounds_toArray, List.set_cons_zero, List.set_cons_succ]
          refine wpAnyH_take (i := 4) (v := ?_) rfl (by kernel_rfl) (by kernel_rfl) (by kernel_rfl) (fun _ _ _ h => h) (Or.inl ⟨by rfl, ?_⟩) (by assumption) ?_
          rotate_left
          · (intro w hSw; (try dsimp only at hSw); go_simp; try with_reducible rfl)
          try simp only [Act.put, List.getElem_toArray, List.getElem_cons_zero, List.getElem_cons_succ, List.setIfInBounds_toArray, List.set_cons_zero, List.set_cons_succ]
          refine wpAnyH_ready (rs := [5]) (by kernel_rfl) (by simp) ?_
          refine AllReadyH.cons rfl (fun K hK => ?_) AllReadyH.nil
          go_simp
          (go_at_call 127; refine (RBb.yes (l03Bar_any x hx _ _) a1).mono ?_; rintro e w3 ⟨rfl, hb3⟩)
          refine hK.out _ _ ⟨(k2.next (bundrew hb3)).2, (hb3.cell (p := ⟨b, _, none⟩) hb).trans c0⟩ (fun hHeld => ?_)
          clear hK K
          try simp only [Act.put, List.getElem_toArray, List.getElem_cons_zero, List.getElem_cons_succ, List.setIfInBounds_toArray, List.set_cons_zero, List.set_cons_succ]
          refine wpAnyH_take (i := 6) (v := ?_) rfl (by kernel_rfl) (by kernel_rfl) (by kernel_rfl) (fun _ _ _ h => h) (Or.inl ⟨by rfl, ?_⟩) (by assumption) ?_
          rotate_left
          · (intro w hSw; (try dsimp only at hSw); go_simp; try with_reducible rfl)
          try simp only [Act.put, List.getElem_toArray, List.getElem_cons_zero, List.getElem_cons_succ, List.setIfInBounds_toArray, List.set_cons_zero, List.set_cons_succ]
          refine wpAnyH_take (i := 7) (v := ?_) rfl (by kernel_rfl) (by kernel_rfl) (by kernel_rfl) (fun _ _ _ h => h) (Or.inl ⟨by rfl, ?_⟩) (by assumption) ?_
          rotate_left
          · (intro w hSw; (try dsimp only at hSw); go_simp; try with_reducible rfl)
          try simp only [Act.put, List.getElem_toArray, List.getElem_cons_zero, List.getElem_cons_succ, List.setIfInBounds_toArray, List.set_cons_zero, List.set_cons_succ]
          refine wpAnyH_take (i := 8) (v := ?_) rfl (by kernel_rfl) (by kernel_rfl) (by kernel_rfl) (fun _ _ _ h => h) (Or.inl ⟨by rfl, ?_⟩) (by assumption) ?_
          rotate_left
          · (intro w hSw; (try dsimp only at hSw); go_simp; try with_reducible rfl)
          try simp only [Act.put, List.getElem_toArray, List.getElem_cons_zero, List.getElem_cons_succ, List.setIfInBounds_toArray, List.set_cons_zero, List.set_cons_succ]
          refine wpAnyH_take (i := 9) (v := ?_) rfl (by kernel_rfl) (by kernel_rfl) (by kernel_rfl) (fun _ _ _ h => h) (Or.inl ⟨by rfl, ?_⟩) (by assumption) ?_
          rotate_left
          · (intro w hSw; (try dsimp only at hSw); go_simp; try with_reducible rfl)
          try simp only [Act.put, List.getElem_toArray, List.getElem_cons_zero, List.getElem_cons_succ, List.setIfInBounds_toArray, List.set_cons_zero, List.set_cons_succ]
          refine wpAnyH_take (i := 10) (v := ?_) rfl (by kernel_rfl) (by kernel_rfl) (by kernel_rfl) (fun _ _ _ h => h) (Or.inl ⟨by rfl, ?_⟩) (by assumption) ?_
          rotate_left
          · (intro w hSw; (try dsimp only at hSw); go_simp; try with_reducible rfl)
          try simp only [Act.put, List.getElem_toArray, List.getElem_cons_zero, List.getElem_cons_succ, List.setIfInBounds_toArray, List.set_cons_zero, List.set_cons_succ]
          refine wpAnyH_take (i := 11) (v := ?_) rfl (by kernel_rfl) (by kernel_rfl) (by kernel_rfl) (fun _ _ _ h => h) (Or.inl ⟨by rfl, ?_⟩) (by assumption) ?_
          rotate_left
          · (intro w hSw; (try dsimp only at hSw); go_simp; try with_reducible rfl)
          try simp only [Act.put, List.getElem_toArray, List.getElem_cons_zero, List.getElem_cons_succ, List.setIfInBounds_toArray, List.set_cons_zero, List.set_cons_succ]
          refine wpAnyH_take (i := 12) (v := ?_) rfl (by kernel_rfl) (by kernel_rfl) (by kernel_rfl) (fun _ _ _ h => h) (Or.inl ⟨by rfl, ?_⟩) (by assumption) ?_
          rotate_left
          · (intro w hSw; (try dsimp only at hSw); go_simp; try with_reducible rfl)
          try simp only [Act.put, List.getElem_toArray, List.getElem_cons_zero, List.getElem_cons_succ, List.setIfInBounds_toArray, List.set_cons_zero, List.set_cons_succ]
          refine wpAnyH_take (i := 13) (v := ?_) rfl (by kernel_rfl) (by kernel_rfl) (by kernel_rfl) (fun _ _ _ h => h) (Or.inl ⟨by rfl, ?_⟩) (by assumption) ?_
          rotate_left
          · (intro w hSw; (try dsimp only at hSw); go_simp; try with_reducible rfl)
          try simp only [Act.put, List.getElem_toArray, List.getElem_cons_zero, List.getElem_cons_succ, List.setIfInBounds_toArray, List.set_cons_zero, List.set_cons_succ]
          refine wpAnyH_take (i := 14) (v := ?_) rfl (by kernel_rfl) (by kernel_rfl) (by kernel_rfl) (fun _ _ _ h => h) (Or.inl ⟨by rfl, ?_⟩) (by assumption) ?_
          rotate_left
          · (intro w hSw; (try dsimp only at hSw); go_simp; try with_reducible rfl)
          try simp only [Act.put, List.getElem_toArray, List.getElem_cons_zero, List.getElem_cons_succ, List.setIfInBounds_toArray, List.set_cons_zero, List.set_cons_succ]
          refine wpAnyH_ready (rs := [15]) (by kernel_rfl) (by simp) ?_
          refine AllReadyH.cons rfl (fun K hK => ?_) AllReadyH.nil
          go_simp
          (go_at_call 128; refine (RB.yes (l00Has_any _ _ _ (ps.take k) HLK.out hlm _ _ (rt.below (bundrew hb3))) hm).mono ?_; rintro e w4 ⟨rfl, rfl⟩)
          refine hK.out _ _ ⟨(k2.next (bundrew hb3)).2, (hb3.cell (p := ⟨b, _, none⟩) hb).trans c0⟩ (fun hHeld => ?_)
          clear hK K
          try simp only [Act.put, List.getElem_toArray, List.getElem_cons_zero, List.getElem_cons_succ, List.setIfInBounds_toArray, List.set_cons_zero, List.set_cons_succ]
          refine wpAnyH_take (i := 16) (v := ?_) rfl (by kernel_rfl) (by kernel_rfl) (by kernel_rfl) (fun _ _ _ h => h) (Or.inl ⟨by rfl, ?_⟩) (by assumption) ?_
          rotate_left
          · (intro w hSw; (try dsimp only at hSw); go_simp; try with_reducible rfl)
          try simp only [Act.put, List.getElem_toArray, List.getElem_cons_zero, List.getElem_cons_succ, List.setIfInBounds_toArray, List.set_cons_zero, List.set_cons_succ]
          refine wpAnyH_done (by kernel_rfl) ?_ _
          have hb4 := bundrew hb3
          go_wp2
          go_ret
          exact RBb.mk (nott fun hh => (hh.2 k hlt hlt).2 HM.out) (bnext hB2 hb4)
        · have HM := Lib.hid hm
          go_wp2
          refine wp_region_held_drew (S := (fun w' => (w'.cell? ⟨w.heap.size, 0, none⟩ = some (.int .i64 x.1) ∧ w'.cell? ⟨w.heap.size, 1, none⟩ = some (.int .i64 x.2.1) ∧ w'.cell? ⟨w.heap.size, 2, none⟩ = some (.int .i64 x.2.2.1) ∧ w'.cell? ⟨w.heap.size, 3, none⟩ = some (.int .i64 x.2.2.2.1) ∧ w'.cell? ⟨w.heap.size, 4, none⟩ = some (.int .i64 x.2.2.2.2)) ∧ w'.cell? ⟨b, off + k, none⟩ = some (.int .i64 ps[k]))) (by kernel_rfl) ⟨k2.2, c0⟩ (fun hHeld => ?_)
          refine wpAnyH_take (i := 0) (v := ?_) rfl (by kernel_rfl) (by kernel_rfl) (by kernel_rfl) (fun _ _ _ h => h) (Or.inl ⟨by rfl, ?_⟩) (by assumption) ?_
          rotate_left
          · (intro w hSw; (try dsimp only at hSw); go_simp; try with_reducible rfl)
          try simp only [Act.put, List.getElem_toArray, List.getElem_cons_zero, List.getElem_cons_succ, List.setIfInBounds_toArray, List.set_cons_zero, List.set_cons_succ]
          refine wpAnyH_take (i := 1) (v := ?_) rfl (by kernel_rfl) (by kernel_rfl) (by kernel_rfl) (fun _ _ _ h => h) (Or.inl ⟨by rfl, ?_⟩) (by assumption) ?_
          rotate_left
          · (intro w hSw; (try dsimp only at hSw); go_simp; try with_reducible rfl)
          try simp only [Act.put, List.getElem_toArray, List.getElem_cons_zero, List.getElem_cons_succ, List.setIfInBounds_toArray, List.set_cons_zero, List.set_cons_succ]
          refine wpAnyH_take (i := 2) (v := ?_) rfl (by kernel_rfl) (by kernel_rfl) (by kernel_rfl) (fun _ _ _ h => h) (Or.inl ⟨by rfl, ?_⟩) (by assumption) ?_
          rotate_left
          · (intro w hSw; (try dsimp only at hSw); go_simp; try with_reducible rfl)
          try simp only [Act.put, List.getElem_toArray, List.getElem_cons_zero, List.getElem_cons_succ, List.setIfInBounds_toArray, List.set_cons_zero, List.set_cons_succ]
          refine wpAnyH_take (i := 3) (v := ?_) rfl (by kernel_rfl) (by kernel_rfl) (by kernel_rfl) (fun _ _ _ h => h) (Or.inl ⟨by rfl, ?_⟩) (by assumption) ?_
          rotate_left
          · (intro w hSw; (try dsimp only at hSw); go_simp; try with_reducible rfl)
          try simp only [Act.put, List.getElem_toArray, List.getElem_cons_zero, List.getElem_cons_succ, List.setIfInBounds_toArray, List.set_cons_zero, List.set_cons_succ]
          refine wpAnyH_take (i := 4) (v := ?_) rfl (by kernel_rfl) (by kernel_rfl) (by kernel_rfl) (fun _ _ _ h => h) (Or.inl ⟨by rfl, ?_⟩) (by assumption) ?_
          rotate_left
          · (intro w hSw; (try dsimp only at hSw); go_simp; try with_reducible rfl)
          try simp only [Act.put, List.getElem_toArray, List.getElem_cons_zero, List.getElem_cons_succ, List.setIfInBounds_toArray, List.set_cons_zero, List.set_cons_succ]
          refine wpAnyH_ready (rs := [5]) (by kernel_rfl) (by simp) ?_
          refine AllReadyH.cons rfl (fun K hK => ?_) AllReadyH.nil
          go_simp
          (go_at_call 127; refine (RBb.yes (l03Bar_any x hx _ _) a1).mono ?_; rintro e w3 ⟨rfl, hb3⟩)
          refine hK.out _ _ ⟨(k2.next (bundrew hb3)).2, (hb3.cell (p := ⟨b, _, none⟩) hb).trans c0⟩ (fun hHeld => ?_)
          clear hK K
          try simp only [Act.put, List.getElem_toArray, List.getElem_cons_zero, List.getElem_cons_succ, List.setIfInBounds_toArray, List.set_cons_zero, List.set_cons_succ]
          refine wpAnyH_take (i := 6) (v := ?_) rfl (by kernel_rfl) (by kernel_rfl) (by kernel_rfl) (fun _ _ _ h => h) (Or.inl ⟨by rfl, ?_⟩) (by assumption) ?_
          rotate_left
          · (intro w hSw; (try dsimp only at hSw); go_simp; try with_reducible rfl)
          try simp only [Act.put, List.getElem_toArray, List.getElem_cons_zero, List.getElem_cons_succ, List.setIfInBounds_toArray, List.set_cons_zero, List.set_cons_succ]
          refine wpAnyH_take (i := 7) (v := ?_) rfl (by kernel_rfl) (by kernel_rfl) (by kernel_rfl) (fun _ _ _ h => h) (Or.inl ⟨by rfl, ?_⟩) (by assumption) ?_
          rotate_left
          · (intro w hSw; (try dsimp only at hSw); go_simp; try with_reducible rfl)
          try simp only [Act.put, List.getElem_toArray, List.getElem_cons_zero, List.getElem_cons_succ, List.setIfInBounds_toArray, List.set_cons_zero, List.set_cons_succ]
          refine wpAnyH_take (i := 8) (v := ?_) rfl (by kernel_rfl) (by kernel_rfl) (by kernel_rfl) (fun _ _ _ h => h) (Or.inl ⟨by rfl, ?_⟩) (by assumption) ?_
          rotate_left
          · (intro w hSw; (try dsimp only at hSw); go_simp; try with_reducible rfl)
          try simp only [Act.put, List.getElem_toArray, List.getElem_cons_zero, List.getElem_cons_succ, List.setIfInBounds_toArray, List.set_cons_zero, List.set_cons_succ]
          refine wpAnyH_take (i := 9) (v := ?_) rfl (by kernel_rfl) (by kernel_rfl) (by kernel_rfl) (fun _ _ _ h => h) (Or.inl ⟨by rfl, ?_⟩) (by assumption) ?_
          rotate_left
          · (intro w hSw; (try dsimp only at hSw); go_simp; try with_reducible rfl)
          try simp only [Act.put, List.getElem_toArray, List.getElem_cons_zero, List.getElem_cons_succ, List.setIfInBounds_toArray, List.set_cons_zero, List.set_cons_succ]
          refine wpAnyH_take (i := 10) (v := ?_) rfl (by kernel_rfl) (by kernel_rfl) (by kernel_rfl) (fun _ _ _ h => h) (Or.inl ⟨by rfl, ?_⟩) (by assumption) ?_
          rotate_left
          · (intro w hSw; (try dsimp only at hSw); go_simp; try with_reducible rfl)
          try simp only [Act.put, List.getElem_toArray, List.getElem_cons_zero, List.getElem_cons_succ, List.setIfInBounds_toArray, List.set_cons_zero, List.set_cons_succ]
          refine wpAnyH_take (i := 11) (v := ?_) rfl (by kernel_rfl) (by kernel_rfl) (by kernel_rfl) (fun _ _ _ h => h) (Or.inl ⟨by rfl, ?_⟩) (by assumption) ?_
          rotate_left
          · (intro w hSw; (try dsimp only at hSw); go_simp; try with_reducible rfl)
          try simp only [Act.put, List.getElem_toArray, List.getElem_cons_zero, List.getElem_cons_succ, List.setIfInBounds_toArray, List.set_cons_zero, List.set_cons_succ]
          refine wpAnyH_take (i := 12) (v := ?_) rfl (by kernel_rfl) (by kernel_rfl) (by kernel_rfl) (fun _ _ _ h => h) (Or.inl ⟨by rfl, ?_⟩) (by assumption) ?_
          rotate_left
          · (intro w hSw; (try dsimp only at hSw); go_simp; try with_reducible rfl)
          try simp only [Act.put, List.getElem_toArray, List.getElem_cons_zero, List.getElem_cons_succ, List.setIfInBounds_toArray, List.set_cons_zero, List.set_cons_succ]
          refine wpAnyH_take (i := 13) (v := ?_) rfl (by kernel_rfl) (by kernel_rfl) (by kernel_rfl) (fun _ _ _ h => h) (Or.inl ⟨by rfl, ?_⟩) (by assumption) ?_
          rotate_left
          · (intro w hSw; (try dsimp only at hSw); go_simp; try with_reducible rfl)
          try simp only [Act.put, List.getElem_toArray, List.getElem_cons_zero, List.getElem_cons_succ, List.setIfInBounds_toArray, List.set_cons_zero, List.set_cons_succ]
          refine wpAnyH_take (i := 14) (v := ?_) rfl (by kernel_rfl) (by kernel_rfl) (by kernel_rfl) (fun _ _ _ h => h) (Or.inl ⟨by rfl, ?_⟩) (by assumption) ?_
          rotate_left
          · (intro w hSw; (try dsimp only at hSw); go_simp; try with_reducible rfl)
          try simp only [Act.put, List.getElem_toArray, List.getElem_cons_zero, List.getElem_cons_succ, List.setIfInBounds_toArray, List.set_cons_zero, List.set_cons_succ]
          refine wpAnyH_ready (rs := [15]) (by kernel_rfl) (by simp) ?_
          refine AllReadyH.cons rfl (fun K hK => ?_) AllReadyH.nil
          go_simp
          (go_at_call 128; refine (RB.no (l00Has_any _ _ _ (ps.take k) HLK.out hlm _ _ (rt.below (bundrew hb3))) hm).mono ?_; rintro e w4 ⟨rfl, rfl⟩)
          refine hK.out _ _ ⟨(k2.next (bundrew hb3)).2, (hb3.cell (p := ⟨b, _, none⟩) hb).trans c0⟩ (fun hHeld => ?_)
          clear hK K
          try simp only [Act.put, List.getElem_toArray, List.getElem_cons_zero, List.getElem_cons_succ, List.setIfInBounds_toArray, List.set_cons_zero, List.set_cons_succ]
          refine wpAnyH_take (i := 16) (v := ?_) rfl (by kernel_rfl) (by kernel_rfl) (by kernel_rfl) (fun _ _ _ h => h) (Or.inl ⟨by rfl, ?_⟩) (by assumption) ?_
          rotate_left
          · (intro w hSw; (try dsimp only at hSw); go_simp; try with_reducible rfl)
          try simp only [Act.put, List.getElem_toArray, List.getElem_cons_zero, List.getElem_cons_succ, List.setIfInBounds_toArray, List.set_cons_zero, List.set_cons_succ]
          refine wpAnyH_done (by kernel_rfl) ?_ _
          have hb4 := bundrew hb3
          go_wp2
          go_roundg (ps.length - (k + 1))
          case measure => rw [HG.out]; omega
          case rel => exact ⟨k + 1, by omega, rfl, placesUp_succ hlt HUp.out a1 HM.out, bnext hbw hb4, by go_num⟩
      · have HA1 := Lib.hid a1
        go_wp2
        refine wp_region_held_drew (S := (fun w' => (w'.cell? ⟨w.heap.size, 0, none⟩ = some (.int .i64 x.1) ∧ w'.cell? ⟨w.heap.size, 1, none⟩ = some (.int .i64 x.2.1) ∧ w'.cell? ⟨w.heap.size, 2, none⟩ = some (.int .i64 x.2.2.1) ∧ w'.cell? ⟨w.heap.size, 3, none⟩ = some (.int .i64 x.2.2.2.1) ∧ w'.cell? ⟨w.heap.size, 4, none⟩ = some (.int .i64 x.2.2.2.2)) ∧ w'.cell? ⟨b, off + k, none⟩ = some (.int .i64 ps[k]))) (by kernel_rfl) ⟨k2.2, c0⟩ (fun hHeld => ?_)
        refine wpAnyH_take (i := 0) (v := ?_) rfl (by kernel_rfl) (by kernel_rfl) (by kernel_rfl) (fun _ _ _ h => h) (Or.inl ⟨by rfl, ?_⟩) (by assumption) ?_
        rotate_left
        · (intro w hSw; (try dsimp only at hSw); go_simp; try with_reducible rfl)
        try simp only [Act.put, List.getElem_toArray, List.getElem_cons_zero, List.getElem_cons_succ, List.setIfInBounds_toArray, List.set_cons_zero, List.set_cons_succ]
        refine wpAnyH_take (i := 1) (v := ?_) rfl (by kernel_rfl) (by kernel_rfl) (by kernel_rfl) (fun _ _ _ h => h) (Or.inl ⟨by rfl, ?_⟩) (by assumption) ?_
        rotate_left
        · (intro w hSw; (try dsimp only at hSw); go_simp; try with_reducible rfl)
        try simp only [Act.put, List.getElem_toArray, List.getElem_cons_zero, List.getElem_cons_succ, List.setIfInBounds_toArray, List.set_cons_zero, List.set_cons_succ]
        refine wpAnyH_take (i := 2) (v := ?_) rfl (by kernel_rfl) (by kernel_rfl) (by kernel_rfl) (fun _ _ _ h => h) (Or.inl ⟨by rfl, ?_⟩) (by assumption) ?_
        rotate_left
        · (intro w hSw; (try dsimp only at hSw); go_simp; try with_reducible rfl)
        try simp only [Act.put, List.getElem_toArray, List.getElem_cons_zero, List.getElem_cons_succ, List.setIfInBounds_toArray, List.set_cons_zero, List.set_cons_succ]
        refine wpAnyH_take (i := 3) (v := ?_) rfl (by kernel_rfl) (by kernel_rfl) (by kernel_rfl) (fun _ _ _ h => h) (Or.inl ⟨by rfl, ?_⟩) (by assumption) ?_
        rotate_left
        · (intro w hSw; (try dsimp only at hSw); go_simp; try with_reducible rfl)
        try simp only [Act.put, List.getElem_toArray, List.getElem_cons_zero, List.getElem_cons_succ, List.setIfInBounds_toArray, List.set_cons_zero, List.set_cons_succ]
        refine wpAnyH_take (i := 4) (v := ?_) rfl (by kernel_rfl) (by kernel_rfl) (by kernel_rfl) (fun _ _ _ h => h) (Or.inl ⟨by rfl, ?_⟩) (by assumption) ?_
        rotate_left
        · (intro w hSw; (try dsimp only at hSw); go_simp; try with_reducible rfl)
        try simp only [Act.put, List.getElem_toArray, List.getElem_cons_zero, List.getElem_cons_succ, List.setIfInBounds_toArray, List.set_cons_zero, List.set_cons_succ]
        refine wpAnyH_ready (rs := [5]) (by kernel_rfl) (by simp) ?_
        refine AllReadyH.cons rfl (fun K hK => ?_) AllReadyH.nil
        go_simp
        (go_at_call 127; refine (RBb.no (l03Bar_any x hx _ _) a1).mono ?_; rintro e w3 ⟨rfl, hb3⟩)
        refine hK.out _ _ ⟨(k2.next (bundrew hb3)).2, (hb3.cell (p := ⟨b, _, none⟩) hb).trans c0⟩ (fun hHeld => ?_)
        clear hK K
        try simp only [Act.put, List.getElem_toArray, List.getElem_cons_zero, List.getElem_cons_succ, List.setIfInBounds_toArray, List.set_cons_zero, List.set_cons_succ]
        refine wpAnyH_take (i := 6) (v := ?_) rfl (by kernel_rfl) (by kernel_rfl) (by kernel_rfl) (fun _ _ _ h => h) (Or.inl ⟨by rfl, ?_⟩) (by assumption) ?_
        rotate_left
        · (intro w hSw; (try dsimp only at hSw); go_simp; try with_reducible rfl)
        try simp only [Act.put, List.getElem_toArray, List.getElem_cons_zero, List.getElem_cons_succ, List.setIfInBounds_toArray, List.set_cons_zero, List.set_cons_succ]
        refine wpAnyH_take (i := 7) (v := ?_) rfl (by kernel_rfl) (by kernel_rfl) (by kernel_rfl) (fun _ _ _ h => h) (Or.inl ⟨by rfl, ?_⟩) (by assumption) ?_
        rotate_left
        · (intro w hSw; (try dsimp only at hSw); go_simp; try with_reducible rfl)
        try simp only [Act.put, List.getElem_toArray, List.getElem_cons_zero, List.getElem_cons_succ, List.setIfInBounds_toArray, List.set_cons_zero, List.set_cons_succ]
        refine wpAnyH_take (i := 8) (v := undef) rfl (by kernel_rfl) (by kernel_rfl) (by kernel_rfl) (fun _ _ _ h => h) (Or.inr ⟨by rfl, rfl⟩) (by assumption) ?_
        try simp only [Act.put, List.getElem_toArray, List.getElem_cons_zero, List.getElem_cons_succ, List.setIfInBounds_toArray, List.set_cons_zero, List.set_cons_succ]
        refine wpAnyH_take (i := 9) (v := undef) rfl (by kernel_rfl) (by kernel_rfl) (by kernel_rfl) (fun _ _ _ h => h) (Or.inr ⟨by rfl, rfl⟩) (by assumption) ?_
        try simp only [Act.put, List.getElem_toArray, List.getElem_cons_zero, List.getElem_cons_succ, List.setIfInBounds_toArray, List.set_cons_zero, List.set_cons_succ]
        refine wpAnyH_take (i := 10) (v := undef) rfl (by kernel_rfl) (by kernel_rfl) (by kernel_rfl) (fun _ _ _ h => h) (Or.inr ⟨by rfl, rfl⟩) (by assumption) ?_
        try simp only [Act.put, List.getElem_toArray, List.getElem_cons_zero, List.getElem_cons_succ, List.setIfInBounds_toArray, List.set_cons_zero, List.set_cons_succ]
        refine wpAnyH_take (i := 11) (v := undef) rfl (by kernel_rfl) (by kernel_rfl) (by kernel_rfl) (fun _ _ _ h => h) (Or.inr ⟨by rfl, rfl⟩) (by assumption) ?_
        try simp only [Act.put, List.getElem_toArray, List.getElem_cons_zero, List.getElem_cons_succ, List.setIfInBounds_toArray, List.set_cons_zero, List.set_cons_succ]
        refine wpAnyH_take (i := 12) (v := undef) rfl (by kernel_rfl) (by kernel_rfl) (by kernel_rfl) (fun _ _ _ h => h) (Or.inr ⟨by rfl, rfl⟩) (by assumption) ?_
        try simp only [Act.put, List.getElem_toArray, List.getElem_cons_zero, List.getElem_cons_succ, List.setIfInBounds_toArray, List.set_cons_zero, List.set_cons_succ]
        refine wpAnyH_take (i := 13) (v := undef) rfl (by kernel_rfl) (by kernel_rfl) (by kernel_rfl) (fun _ _ _ h => h) (Or.inr ⟨by rfl, rfl⟩) (by assumption) ?_
        try simp only [Act.put, List.getElem_toArray, List.getElem_cons_zero, List.getElem_cons_succ, List.setIfInBounds_toArray, List.set_cons_zero, List.set_cons_succ]
        refine wpAnyH_take (i := 14) (v := undef) rfl (by kernel_rfl) (by kernel_rfl) (by kernel_rfl) (fun _ _ _ h => h) (Or.inr ⟨by rfl, rfl⟩) (by assumption) ?_
        try simp only [Act.put, List.getElem_toArray, List.getElem_cons_zero, List.getElem_cons_succ, List.setIfInBounds_toArray, List.set_cons_zero, List.set_cons_succ]
        refine wpAnyH_take (i := 15) (v := undef) rfl (by kernel_rfl) (by kernel_rfl) (by kernel_rfl) (fun _ _ _ h => h) (Or.inr ⟨by rfl, rfl⟩) (by assumption) ?_
        try simp only [Act.put, List.getElem_toArray, List.getElem_cons_zero, List.getElem_cons_succ, List.setIfInBounds_toArray, List.set_cons_zero, List.set_cons_succ]
        refine wpAnyH_take (i := 16) (v := ?_) rfl (by kernel_rfl) (by kernel_rfl) (by kernel_rfl) (fun _ _ _ h => h) (Or.inl ⟨by rfl, ?_⟩) (by assumption) ?_
        rotate_left
        · (intro w hSw; (try dsimp only at hSw); go_simp; try with_reducible rfl)
        try simp only [Act.put, List.getElem_toArray, List.getElem_cons_zero, List.getElem_cons_succ, List.setIfInBounds_toArray, List.set_cons_zero, List.set_cons_succ]
        refine wpAnyH_done (by kernel_rfl) ?_ _
        have hb4 := bundrew hb3
        go_wp2
        go_ret
        exact RBb.mk (nott fun hh => HA1.out (hh.2 k hlt hlt).1) (bnext hB2 hb4)
    · have hA := HUp.out
      rw [show k = ps.length by omega] at hA
      have HA2 := Lib.hid hA
      clear hA
      by_cases h17 : 1 ≤ (ps.length : Int) ∧ (ps.length : Int) ≤ 7
      · go_wp2_with (go_at_call 77; refine (l00In_yes _ _ _ h17 _).mono ?_; rintro e w5 ⟨rfl, rfl⟩)
        go_ret
        exact RBb.mk (yest ⟨h17, HA2.out⟩) hB2
      · go_wp2_with (go_at_call 77; refine (l00In_no _ _ _ h17 _).mono ?_; rintro e w5 ⟨rfl, rfl⟩)
        go_ret
        exact RBb.mk (nott fun hh => h17 hh.1) hB2
theorem keyI : Go.Maps.Keyed Try.prog 2 := Go.Maps.int_keyed Try.underlying2
theorem zeroBool (w : World) : (zeroValue 4).run Try.prog w = .ok (.bool false) w := by kernel_rfl
/-- Which keys were seen before k. -/
def seenI (ps : List Int) (k : Nat) : Lit → Bool := fun l => (ps.take k).any fun n => l.sameKey (.int .i64 n)
theorem seenI_at (ps : List Int) (k : Nat) (n : Int) : seenI ps k (.int .i64 n) = true ↔ n ∈ ps.take k := by
  unfold seenI
  rw [List.any_eq_true]
  constructor
  · rintro ⟨m, hm, he⟩
    have := WideAt.sameKey_eq he
    injection this with h1 h2
    rw [h2]; exact hm
  · intro h
    exact ⟨n, h, WideAt.sameKey_self trivial⟩
theorem seenI_succ (ps : List Int) (k : Nat) (h : k < ps.length) : (fun q : Lit => if q.sameKey (.int .i64 ps[k]) = true then true else seenI ps k q) = seenI ps (k + 1) := by
  funext q
  unfold seenI
  rw [List.take_succ_eq_append_getElem h, List.any_append]
  cases h1 : q.sameKey (.int .i64 ps[k]) <;> simp [h1]
theorem wpList_lookup_bmap_w {P : Program} (w : World) {ops : Array Oper} {rest : List Oper} {o : Oper} {a : Act} {Q : Exit → Act → World → Prop}
    (hw : Region.wanted o (yielded ops a.tmps) = true) (m x : Operand) (t : TypeId) (hop : o.op = Op.lookup t m x false)
    (k e : TypeId) (kd : Go.Maps.Keyed P k) (ht : P.underlying t = some (.map k e)) (he : P.underlying e = some .bool) (hz : (zeroValue e).run P w = .ok (.bool false) w) (b n : Nat) (f : Lit → Bool)
    (hm : a.eval m = .map (some b)) (hown : BMap w P k e b n f) (key : Value) (kl : Lit) (hkl : WideAt.IsKeyLit kl) (hx : a.eval x = key) (hkey : keyOf P k key = some kl)
    (hK : wpList P ops Q rest (a.put o.dst (.bool (f kl))) w) : wpList P ops Q (o :: rest) a w := by
  refine wpList_step fun K' hK' => ?_
  rw [if_pos hw]
  have hrun := hown.look kd ht he hz hkl hkey
  unfold Oper.wp
  simp [execOp, hop, hm, hx, hrun, Result.andThen]
  exact hK' _ _ hK
theorem keyI_at {n : Int} (h : I64 n) : keyOf Try.prog 2 (.int .i64 n) = some (.int .i64 n) := Go.Maps.keyOf_int_mk Try.underlying2 (by unfold I64 at h; simp [Lit.wf, IntKind.min, IntKind.max, IntKind.signed, IntKind.bits]; omega)
set_option maxHeartbeats 6400000 in
set_option maxRecDepth 10000 in
theorem arranges_any (x : TBasket) (hx : BasketOk x) (A : Option Addr) (c : Nat) (ps : List Int) (hpl : ps.length ≤ 1048576) (hk64 : ∀ n ∈ ps, I64 n) (lo hi : Int) (hlo : 0 ≤ lo ∧ lo ≤ 1048576) (hhi : 0 ≤ hi ∧ hi ≤ 1048576) (w : World) (rx : Row w A encInt 1 ps) :
    Calls Try.prog 76 #[.agg #[.int .i64 x.1, .int .i64 x.2.1, .int .i64 x.2.2.1, .int .i64 x.2.2.2.1, .int .i64 x.2.2.2.2], .slice A ps.length c, .int .i64 lo, .int .i64 hi] w (RBb (ArrOk x ps lo hi) w) := by
  obtain ⟨W0, hW0⟩ : ∃ W0, W0 = w.alloc (.cells #[.int .i64 x.1, .int .i64 x.2.1, .int .i64 x.2.2.1, .int .i64 x.2.2.2.1, .int .i64 x.2.2.2.2] 32) := ⟨_, rfl⟩
  have hB0 : Below w.heap.size w W0 := by rw [hW0]; exact bal (Below.refl _ _) _
  have k0 : AtBasket W0 w.heap.size x := by rw [hW0]; exact AtBasket.new w _ x
  have HW := Lib.hid hW0
  clear hW0
  rcases ff2 (lo ≤ (ps.length : Int)) ((ps.length : Int) ≤ hi) with h | ⟨h, h2⟩ | ⟨h, h2⟩
  · have t1 : decide ((ps.length : Int) < lo) = true := by simp; omega
    have H := Lib.hid h
    clear h
    go_enter Try.func76, Try.ntmps76
    go_wp2_with fail
    rw [← HW.out]
    go_ret
    exact RBb.mk (nott fun hh => by have := hh.1.1; have := H.out; omega) hB0
  · have t1 : decide ((ps.length : Int) < lo) = false := by simp; omega
    have t2 : decide (hi < (ps.length : Int)) = true := by simp; omega
    have H := Lib.hid h2
    clear h h2
    go_enter Try.func76, Try.ntmps76
    go_wp2_with fail
    rw [← HW.out]
    go_ret
    exact RBb.mk (nott fun hh => by have := hh.1.2; have := H.out; omega) hB0
  have t1 : decide ((ps.length : Int) < lo) = false := by simp; omega
  have t2 : decide (hi < (ps.length : Int)) = false := by simp; omega
  have hws : W0.heap.size = w.heap.size + 1 := by rw [HW.out]; simp [go_sem]
  have hmm : BMap (W0.alloc (.map #[] 0)) Try.prog 2 4 (w.heap.size + 1) 0 (seenI ps 0) := by rw [← hws]; exact BMap.made W0 _ _ _
  have HWS := Lib.hid hws
  have hmk := @run_makeMap Try.prog
  clear hws
  go_enter Try.func76, Try.ntmps76
  go_wp2_with fail
  rw [← HW.out]
  go_loopg [25] ps.length (fun g is wr => ∃ (k : Nat), k ≤ ps.length ∧ g = ps.length - k ∧ PlacesUp x ps k ∧ BMap wr Try.prog 2 4 (w.heap.size + 1) k (seenI ps k) ∧ Below (w.heap.size + 1) W0 wr ∧ is = .int .i64 k)
  case atStart => exact ⟨0, Nat.zero_le _, rfl, fun j h hj => absurd hj (by omega), hmm, (by rw [← HWS.out]; exact bal (Below.refl _ _) _), rfl⟩
  case round =>
    obtain ⟨k, hkk, hg, hup, hm, hbw, rfl⟩ := hrel
    have HG := Lib.hid hg
    have HUp := Lib.hid hup
    have hbw0 : Below W0.heap.size W0 wr := by rw [HWS.out]; exact hbw
    have k2 := k0.next hbw0
    have hB2 := bnext hB0 hbw0
    clear hg hup k0
    by_cases hlt : k < ps.length
    · obtain ⟨b, off, hA, hb, c0⟩ := (rx.below hB2).at1 (f := fun x : Int => .int .i64 x) hlt
      subst hA
      have hkey := keyI_at (hk64 _ (List.getElem_mem hlt))
      by_cases a1 : 0 ≤ ps[k] ∧ ps[k] ≤ x.1 - 1
      · have hsa := seenI_at ps k ps[k]
        by_cases hmem : ps[k] ∈ ps.take k
        · have hsv : seenI ps k (.int .i64 ps[k]) = true := hsa.2 hmem
          have HM := Lib.hid hmem
          clear hmem hsa
          go_wp2_with (first | (go_at_call 129; refine (RBb.yes (hasBar_any x hx _ _) a1).mono ?_; rintro e w3 ⟨rfl, hb3⟩; have hm3 := hm.below hb3; have hlook := hm3.look (t := 165) (kl := .int .i64 ps[k]) keyI Try.underlying165 Try.underlying4 (zeroBool _) trivial hkey; rw [hsv] at hlook))
          go_ret
          exact RBb.mk (nott fun hh => (hh.2 k hlt hlt).2 HM.out) (bnext hB2 hb3)
        · have hsv : seenI ps k (.int .i64 ps[k]) = false := Bool.eq_false_iff.2 (fun q => hmem (hsa.1 q))
          have HM := Lib.hid hmem
          clear hmem hsa
          go_wp2_with (first | (go_at_call 129; refine (RBb.yes (hasBar_any x hx _ _) a1).mono ?_; rintro e w3 ⟨rfl, hb3⟩; have hm3 := hm.below hb3; have hlook := hm3.look (t := 165) (kl := .int .i64 ps[k]) keyI Try.underlying165 Try.underlying4 (zeroBool _) trivial hkey; rw [hsv] at hlook) | (at_mapUpdate; refine wpList_update_bmap _ rfl _ _ _ _ rfl _ _ keyI Try.underlying165 Try.underlying4 _ _ _ (by unfold maxLen; omega) rfl hm3 (.int .i64 ps[k]) true (.int .i64 ps[k]) trivial rfl rfl hkey ?_; intro w4 hm4 hg4))
          go_roundg (ps.length - (k + 1))
          case measure => rw [HG.out]; omega
          case rel => exact ⟨k + 1, by omega, rfl, placesUp_succ hlt HUp.out a1 HM.out, (by rw [← seenI_succ ps k hlt]; exact hm4), below_grown (hbw.trans (hb3.mono k2.1)) hg4 (by have := hb3.size; have := k2.1; omega) (Nat.le_refl _), by go_num⟩
      · have HA1 := Lib.hid a1
        go_wp2_with (go_at_call 129; refine (RBb.no (hasBar_any x hx _ _) a1).mono ?_; rintro e w3 ⟨rfl, hb3⟩)
        go_ret
        exact RBb.mk (nott fun hh => HA1.out (hh.2 k hlt hlt).1) (bnext hB2 hb3)
    · have hA := HUp.out
      rw [show k = ps.length by omega] at hA
      have HA2 := Lib.hid hA
      clear hA
      go_wp2_with fail
      go_ret
      exact RBb.mk (yest ⟨⟨h, h2⟩, HA2.out⟩) hB2
end Go.Proofs.Ytbcomfobnhekpaa
