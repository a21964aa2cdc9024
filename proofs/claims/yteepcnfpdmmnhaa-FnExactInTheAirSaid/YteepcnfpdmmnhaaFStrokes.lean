/-
  FStrokes: when strokes of a basket are valid: spec.l03Strokes, impl.ValidStrokes.
-/
import Derived.Test.YteepcnfpdmmnhaaFBars
import Derived.Test.YteepcnfpdmmnhaaTStroke
namespace Go.Proofs.Yteepcnfpdmmnhaa
open Go.RowKit
set_option linter.unusedVariables false
attribute [local go_sem ↓] Go.wp_at_zero Go.wp_at_succ
abbrev AtStroke (w : World) (b : Nat) (x : TStroke) : Prop := b < w.heap.size ∧ w.cell? ⟨b, 0, none⟩ = some (.int .i64 x.1) ∧ w.cell? ⟨b, 1, none⟩ = some (.int .i64 x.2)
theorem AtStroke.next {w w' : World} {b : Nat} {x : TStroke} (h : AtStroke w b x) (hb : Below w.heap.size w w') : AtStroke w' b x :=
  ⟨Nat.lt_of_lt_of_le h.1 hb.size, (hb.cell (p := ⟨b, 0, none⟩) h.1).trans h.2.1, (hb.cell (p := ⟨b, 1, none⟩) h.1).trans h.2.2⟩
theorem AtStroke.new (w : World) (T : TypeId) (x : TStroke) : AtStroke (w.alloc (.cells #[.int .i64 x.1, .int .i64 x.2] T)) w.heap.size x := by
  refine ⟨by simp, ?_, ?_⟩ <;> simp [go_sem]
/-- Stroke j fits behind those before it; `hi` is the greatest bar. -/
def StrokeStep (hi : Int) (xs : List TStroke) (j : Nat) (h : j < xs.length) : Prop :=
  (0 ≤ xs[j].1 ∧ xs[j].1 ≤ hi) ∧ (0 ≤ xs[j].2 ∧ xs[j].2 ≤ 1000000) ∧ ∀ i, i + 1 = j → ∀ h' : i < xs.length, xs[i].2 ≤ xs[j].2
def StrokesUp (hi : Int) (xs : List TStroke) (k : Nat) : Prop := ∀ j, j < k → ∀ h : j < xs.length, StrokeStep hi xs j h
theorem strokesUp_succ {hi : Int} {xs : List TStroke} {k : Nat} (h : k < xs.length) (a : StrokesUp hi xs k) (b : StrokeStep hi xs k h) : StrokesUp hi xs (k + 1) := by
  intro j hj hjl
  by_cases e : j = k
  · subst e; exact b
  · exact a j (by omega) hjl
def StrokesOk (x : TBasket) (xs : List TStroke) : Prop := BasketOk x ∧ xs.length ≤ 60 ∧ StrokesUp (x.1 - 1) xs xs.length
noncomputable instance decStrokesOk (x : TBasket) (xs : List TStroke) : Decidable (StrokesOk x xs) := Classical.propDecidable _
def hiV (x : TBasket) : Int := wrap64 (x.1 - 1)
theorem hiV_ok {x : TBasket} (h : BasketOk x) : hiV x = x.1 - 1 := by unfold hiV wrap64; omega
/-- The ways of one round of the reference: a bad bar, a bad tick, the first one, a tick too early, or good. -/
theorem stroke_ways (hi : Int) (xs : List TStroke) (k : Nat) (h : k < xs.length) :
    (¬ (0 ≤ xs[k].1 ∧ xs[k].1 ≤ hi)) ∨ ((0 ≤ xs[k].1 ∧ xs[k].1 ≤ hi) ∧ ¬ (0 ≤ xs[k].2 ∧ xs[k].2 ≤ 1000000)) ∨
    ((0 ≤ xs[k].1 ∧ xs[k].1 ≤ hi) ∧ (0 ≤ xs[k].2 ∧ xs[k].2 ≤ 1000000) ∧ k = 0) ∨
    ((0 ≤ xs[k].1 ∧ xs[k].1 ≤ hi) ∧ (0 ≤ xs[k].2 ∧ xs[k].2 ≤ 1000000) ∧ 1 ≤ k ∧ xs[k].2 < (xs[k - 1]'(by omega)).2) ∨
    ((0 ≤ xs[k].1 ∧ xs[k].1 ≤ hi) ∧ (0 ≤ xs[k].2 ∧ xs[k].2 ≤ 1000000) ∧ 1 ≤ k ∧ (xs[k - 1]'(by omega)).2 ≤ xs[k].2) := by
  by_cases h1 : 0 ≤ xs[k].1 ∧ xs[k].1 ≤ hi
  · by_cases h2 : 0 ≤ xs[k].2 ∧ xs[k].2 ≤ 1000000
    · by_cases h3 : k = 0
      · exact .inr (.inr (.inl ⟨h1, h2, h3⟩))
      · by_cases h4 : xs[k].2 < (xs[k - 1]'(by omega)).2
        · exact .inr (.inr (.inr (.inl ⟨h1, h2, by omega, h4⟩)))
        · exact .inr (.inr (.inr (.inr ⟨h1, h2, by omega, by omega⟩)))
    · exact .inr (.inl ⟨h1, h2⟩)
  · exact .inl h1
theorem at_eq {xs : List TStroke} {i k : Nat} (e : i = k) (h : k < xs.length) {h' : i < xs.length} : xs[i].2 = xs[k].2 := by
  subst e; rfl
theorem step_of {hi : Int} {xs : List TStroke} {k : Nat} (h : k < xs.length) (a : 0 ≤ xs[k].1 ∧ xs[k].1 ≤ hi) (b : 0 ≤ xs[k].2 ∧ xs[k].2 ≤ 1000000) (c : k = 0 ∨ (1 ≤ k ∧ (xs[k - 1]'(by omega)).2 ≤ xs[k].2)) : StrokeStep hi xs k h := by
  refine ⟨a, b, fun i hi' h' => ?_⟩
  rcases c with c | ⟨c1, c⟩
  · omega
  · have : i = k - 1 := by omega
    subst this
    exact c
theorem not_up {x : TBasket} {hi : Int} {xs : List TStroke} {k : Nat} (h : k < xs.length) (hh : StrokesUp hi xs xs.length) : StrokeStep hi xs k h := hh k h h
set_option maxHeartbeats 400000 in
theorem l03Bar_all (x : TBasket) (hx : okBasket x) (n : Int) (w : World) :
    Calls Try.prog 123 #[.agg #[.int .i64 x.1, .int .i64 x.2.1, .int .i64 x.2.2.1, .int .i64 x.2.2.2.1, .int .i64 x.2.2.2.2], .int .i64 n] w (RBb (0 ≤ n ∧ n ≤ hiV x) w) := by
  go_enter Try.func123, Try.ntmps123
  go_wp2_with (go_at_call 68; refine (l00In_any _ _ _ _).mono ?_; rintro e w1 ⟨b, rfl, hb, rfl⟩)
  go_ret
  exact RBb.mk hb (by repeat (first | exact Below.refl _ _ | (apply bal)))
set_option maxHeartbeats 1600000 in
theorem impl_ValidStrokes_any (x : TBasket) (hx : okBasket x) (A : Option Addr) (c : Nat) (xs : List TStroke) (hxl : xs.length ≤ 1048576) (hk : ∀ n ∈ xs, KStroke n) (w : World) (rx : Row w A encStroke 2 xs) :
    Calls Try.prog 71 #[.agg #[.int .i64 x.1, .int .i64 x.2.1, .int .i64 x.2.2.1, .int .i64 x.2.2.2.1, .int .i64 x.2.2.2.2], .slice A xs.length c] w (RBb (StrokesOk x xs) w) := by
  obtain ⟨W0, hW0⟩ : ∃ W0, W0 = w.alloc (.cells #[.int .i64 x.1, .int .i64 x.2.1, .int .i64 x.2.2.1, .int .i64 x.2.2.2.1, .int .i64 x.2.2.2.2] 29) := ⟨_, rfl⟩
  have hB0 : Below w.heap.size w W0 := by rw [hW0]; exact bal (Below.refl _ _) _
  have k0 : AtBasket W0 w.heap.size x := by rw [hW0]; exact AtBasket.new w _ x
  have HW := Lib.hid hW0
  clear hW0
  by_cases h : BasketOk x
  case neg =>
    go_enter Try.func71, Try.ntmps71
    go_wp2_with fail
    rw [← HW.out]
    refine (RBb.no (iValidBasket_any x _) h).mono ?_; rintro e w1 ⟨rfl, hb1⟩
    go_wp2_with fail
    go_ret
    exact RBb.mk (nott fun hh => h hh.1) (bnext hB0 hb1)
  by_cases hl : xs.length ≤ 60
  case neg =>
    go_enter Try.func71, Try.ntmps71
    go_wp2_with fail
    rw [← HW.out]
    refine (RBb.yes (iValidBasket_any x _) h).mono ?_; rintro e w1 ⟨rfl, hb1⟩
    go_wp2_with fail
    go_ret
    exact RBb.mk (nott fun hh => hl hh.2.1) (bnext hB0 hb1)
  go_enter Try.func71, Try.ntmps71
  go_wp2_with fail
  rw [← HW.out]
  refine (RBb.yes (iValidBasket_any x _) h).mono ?_; rintro e w1 ⟨rfl, hb1⟩
  have k1 := k0.next hb1
  have hB1 := bnext hB0 hb1
  clear k0
  go_wp2_with fail
  go_loopg [5, 18] xs.length (fun g ls i wr => ∃ (k : Nat) (l : Int), k ≤ xs.length ∧ g = xs.length - k ∧ StrokesUp (x.1 - 1) xs k ∧ 0 ≤ l ∧ (k = 0 → l = 0) ∧ (∀ i, i + 1 = k → ∀ h' : i < xs.length, xs[i].2 = l) ∧ Below w1.heap.size w1 wr ∧ ls = .int .i64 l ∧ i = .int .i64 k)
  case atStart => exact ⟨0, 0, Nat.zero_le _, rfl, fun j hj => absurd hj (by omega), by omega, fun _ => rfl, fun i hi => absurd hi (by omega), Below.refl _ _, rfl, rfl⟩
  case round =>
    obtain ⟨k, l, hkk, hg, hup, hl0, hlz, hlp, hbw, rfl, rfl⟩ := hrel
    have HG := Lib.hid hg
    have HT := Lib.hid hup
    have HZ := Lib.hid hlz
    have HP := Lib.hid hlp
    have k2 := k1.next hbw
    have hB2 := bnext hB1 hbw
    clear hg hup k1 hlz hlp
    by_cases hlt : k < xs.length
    · obtain ⟨b, off, rfl, hb, c0, c1⟩ := (rx.below hB2).at2 (f := fun x : TStroke => .int .i64 x.1) (g := fun x : TStroke => .int .i64 x.2) hlt
      by_cases a1 : 0 ≤ xs[k].1 ∧ xs[k].1 ≤ x.1 - 1
      · by_cases a2 : l ≤ xs[k].2 ∧ xs[k].2 ≤ 1000000
        · go_wp2_with (first | (go_at_call 124; refine (RBb.yes (hasBar_any x h _ _) a1).mono ?_; rintro e w3 ⟨rfl, hb3⟩; have s1 := (AtStroke.new wr 101 xs[k]).next hb3) | (go_at_call 72; refine (between_yes _ _ _ a2 _).mono ?_; rintro e w4 ⟨rfl, rfl⟩))
          go_roundg (xs.length - (k + 1))
          case measure => rw [HG.out]; omega
          case rel => exact ⟨k + 1, xs[k].2, by omega, rfl, strokesUp_succ hlt HT.out ⟨a1, by omega, fun i hi h' => by rw [HP.out i hi h']; exact a2.1⟩, by omega, by omega, fun i hi h' => at_eq (by omega) hlt, by repeat (first | exact hbw | refine bnext ?_ hb3 | apply bal), rfl, by go_num⟩
        · go_wp2_with (first | (go_at_call 124; refine (RBb.yes (hasBar_any x h _ _) a1).mono ?_; rintro e w3 ⟨rfl, hb3⟩; have s1 := (AtStroke.new wr 101 xs[k]).next hb3) | (go_at_call 72; refine (between_no _ _ _ a2 _).mono ?_; rintro e w4 ⟨rfl, rfl⟩))
          go_ret
          exact RBb.mk (nott fun hh => by
            have q := not_up (x := x) hlt hh.2.2
            apply a2
            refine ⟨?_, q.2.1.2⟩
            by_cases k0 : k = 0
            · rw [HZ.out k0]; exact q.2.1.1
            · rw [← HP.out (k - 1) (by omega) (by omega)]; exact q.2.2 (k - 1) (by omega) (by omega)) (by repeat (first | exact hB2 | refine bnext ?_ hb3 | apply bal))
      · go_wp2_with (first | (go_at_call 124; refine (RBb.no (hasBar_any x h _ _) a1).mono ?_; rintro e w3 ⟨rfl, hb3⟩))
        go_ret
        exact RBb.mk (nott fun hh => a1 (not_up (x := x) hlt hh.2.2).1) (by repeat (first | exact hB2 | refine bnext ?_ hb3 | apply bal))
    · have htk := HT.out
      have e : k = xs.length := by omega
      rw [e] at htk
      have HA := Lib.hid htk
      clear htk e
      go_wp2
      go_ret
      exact RBb.mk (yest ⟨h, hl, HA.out⟩) hB2
end Go.Proofs.Yteepcnfpdmmnhaa
