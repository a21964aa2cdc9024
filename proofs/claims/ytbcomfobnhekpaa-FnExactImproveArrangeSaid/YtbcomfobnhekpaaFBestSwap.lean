/-
  FBestSwap: the exchange that makes an arrangement cheapest: spec.l05Best, BestSwap; impl.bestSwap, BestSwap.
-/
import Derived.Test.YtbcomfobnhekpaaFArrCost
import Derived.Test.YtbcomfobnhekpaaFSwap
namespace Go.Proofs.Ytbcomfobnhekpaa
open Go.RowKit
set_option linter.unusedVariables false
attribute [local go_sem ↓] Go.wp_at_zero Go.wp_at_succ
abbrev Sw := Option (Nat × Nat)
def swIn (x : TBasket) (xs : List (List Int)) (ps : List Int) (i : Nat) : Nat → Nat → Int → Sw → Int × Sw
  | 0, _, l, o => (l, o)
  | g + 1, k, l, o => if costA x xs (swapL ps i k) < l then swIn x xs ps i g (k + 1) (costA x xs (swapL ps i k)) (some (i, k)) else swIn x xs ps i g (k + 1) l o
def swOut (x : TBasket) (xs : List (List Int)) (ps : List Int) : Nat → Nat → Int → Sw → Sw
  | 0, _, _, o => o
  | g + 1, i, l, o => swOut x xs ps g (i + 1) (swIn x xs ps i (ps.length - (i + 1)) (i + 1) l o).1 (swIn x xs ps i (ps.length - (i + 1)) (i + 1) l o).2
def bestSw (x : TBasket) (xs : List (List Int)) (ps : List Int) : Sw := swOut x xs ps ps.length 0 (costA x xs ps) none
def fX : Sw → Int | none => -1 | some (a, _) => a
def fY : Sw → Int | none => -1 | some (_, b) => b
def fA : Sw → Int | none => 0 | some (a, _) => a
def fB : Sw → Int | none => 0 | some (_, b) => b
def swRes : Sw → Int × Int × Int | none => (0, 0, 3) | some (a, b) => (a, b, 0)
open Classical in
noncomputable def M_BestSwap (x : TBasket) (xs : List (List Int)) (ps : List Int) : Int × Int × Int := if ArrAll x xs ps then swRes (bestSw x xs ps) else (0, 0, arrCode x xs ps)
theorem swOut_step (x : TBasket) (xs : List (List Int)) (ps : List Int) (i : Nat) (h : i < ps.length) (l : Int) (o : Sw) :
    swOut x xs ps (ps.length - i) i l o = swOut x xs ps (ps.length - (i + 1)) (i + 1) (swIn x xs ps i (ps.length - (i + 1)) (i + 1) l o).1 (swIn x xs ps i (ps.length - (i + 1)) (i + 1) l o).2 := by
  rw [show ps.length - i = (ps.length - (i + 1)) + 1 by omega]; rfl
theorem swIn_step (x : TBasket) (xs : List (List Int)) (ps : List Int) (i k : Nat) (h : k < ps.length) (l : Int) (o : Sw) :
    swIn x xs ps i (ps.length - k) k l o = if costA x xs (swapL ps i k) < l then swIn x xs ps i (ps.length - (k + 1)) (k + 1) (costA x xs (swapL ps i k)) (some (i, k)) else swIn x xs ps i (ps.length - (k + 1)) (k + 1) l o := by
  rw [show ps.length - k = (ps.length - (k + 1)) + 1 by omega]; rfl
theorem swapL_all {p : Int → Prop} {ps : List Int} {i k : Nat} (hi : i < ps.length) (hk : k < ps.length) (h : ∀ j (h : j < ps.length), p ps[j]) : ∀ j (h : j < (swapL ps i k).length), p (swapL ps i k)[j] := by
  intro j hj
  have hv : swapL ps i k = (ps.set i ps[k]).set k ps[i] := by
    unfold swapL
    rw [List.getD_eq_getElem?_getD, List.getElem?_eq_getElem hk, List.getD_eq_getElem?_getD, List.getElem?_eq_getElem hi]; rfl
  rw [swapL_len] at hj
  simp only [hv]
  rw [List.getElem_set]
  split
  · exact h i hi
  · rw [List.getElem_set]
    split
    · exact h k hk
    · exact h j hj
set_option maxHeartbeats 6400000 in
set_option maxRecDepth 10000 in
theorem bestSwap_any (x : TBasket) (hb : BasketOk x) (A : Option Addr) (c : Nat) (xs : List (List Int)) (hP : PairsOk xs) (B : Option Addr) (d : Nat) (ps : List Int) (hn : ps.length = xs.length) (hQ : ∀ k (h : k < ps.length), 0 ≤ ps[k] ∧ ps[k] ≤ 60) (w : World) (rx : RowXX w A xs) (ry : Row w B encInt 1 ps) :
    Calls Try.prog 126 #[.agg #[.int .i64 x.1, .int .i64 x.2.1, .int .i64 x.2.2.1, .int .i64 x.2.2.2.1, .int .i64 x.2.2.2.2], .slice A xs.length c, .slice B ps.length d] w fun e w' => Below w.heap.size w w' ∧ ∃ (n0 n1 : Int) (bb : Bool), e = .returned (.tuple #[.int .i64 n0, .int .i64 n1, .bool bb]) ∧ (n0 = fA (bestSw x xs ps) ∧ n1 = fB (bestSw x xs ps) ∧ bb = (bestSw x xs ps).isSome) := by
  obtain ⟨W0, hW0⟩ : ∃ W0, W0 = w.alloc (.cells #[.int .i64 x.1, .int .i64 x.2.1, .int .i64 x.2.2.1, .int .i64 x.2.2.2.1, .int .i64 x.2.2.2.2] 32) := ⟨_, rfl⟩
  have hB0 : Below w.heap.size w W0 := by rw [hW0]; exact bal (Below.refl _ _) _
  have k0 : AtBasket W0 w.heap.size x := by rw [hW0]; exact AtBasket.new w _ x
  have HW := Lib.hid hW0
  clear hW0
  obtain ⟨R, hR⟩ : ∃ R, R = bestSw x xs ps := ⟨_, rfl⟩
  rw [← hR]
  have HR := Lib.hid hR
  clear hR
  have hn1 := hP.1.1
  have hn2 := hP.1.2
  have HN := Lib.hid hn
  have HQ := Lib.hid hQ
  have hnl : ps.length ≤ 7 := by omega
  have hpl : ps.length ≤ 1048576 := by omega
  clear hQ hn
  go_enter Try.func126, Try.ntmps126
  go_wp2_with fail
  rw [← HW.out]
  refine (cost_any x hb _ _ xs hP _ _ ps HN.out HQ.out _ (rx.below hB0) (ry.below hB0)).mono ?_; rintro e w1 ⟨rfl, hb1⟩
  have k1 := k0.next hb1
  have hB1 := bnext hB0 hb1
  obtain ⟨L0, hL0⟩ : ∃ L0, costA x xs ps = L0 := ⟨_, rfl⟩
  rw [hL0]
  have HL0 := Lib.hid hL0
  clear hL0 k0
  go_wp2_with fail
  go_loopg [9, 10, 11, 12, 22] ps.length (fun g ls_ xs_ ys_ fs_ is wr => ∃ (i : Nat) (l : Int) (o : Sw), i ≤ ps.length ∧ g = ps.length - i ∧ swOut x xs ps (ps.length - i) i l o = R ∧ Below w1.heap.size w1 wr ∧ ls_ = .int .i64 l ∧ xs_ = .int .i64 (fA o) ∧ ys_ = .int .i64 (fB o) ∧ fs_ = .bool o.isSome ∧ is = .int .i64 i)
  case atStart => exact ⟨0, L0, none, Nat.zero_le _, rfl, by rw [HR.out, ← HL0.out]; rfl, Below.refl _ _, rfl, rfl, rfl, rfl, rfl⟩
  case round =>
    obtain ⟨i, l, o, hi, hg, hgo, hbw, rfl, rfl, rfl, rfl, rfl⟩ := hrel
    have HG := Lib.hid hg
    clear hg
    by_cases hlt : i < ps.length
    · rw [swOut_step x xs ps i hlt] at hgo
      have HF := Lib.hid hgo
      clear hgo
      have i1 : (0 : Int) ≤ (i : Int) := by omega
      have i2 : (i : Int) < (ps.length : Int) := by omega
      go_wp2_with fail
      go_loopg [9, 10, 11, 12, 14] (ps.length - (i + 1)) (fun g2 ls_ xs_ ys_ fs_ ks wi => ∃ (k : Nat) (l : Int) (o : Sw), i + 1 ≤ k ∧ k ≤ ps.length ∧ g2 = ps.length - k ∧ swOut x xs ps (ps.length - (i + 1)) (i + 1) (swIn x xs ps i (ps.length - k) k l o).1 (swIn x xs ps i (ps.length - k) k l o).2 = R ∧ Below w1.heap.size w1 wi ∧ ls_ = .int .i64 l ∧ xs_ = .int .i64 (fA o) ∧ ys_ = .int .i64 (fB o) ∧ fs_ = .bool o.isSome ∧ ks = .int .i64 k)
      case atStart => exact ⟨i + 1, l, o, Nat.le_refl _, by omega, by omega, HF.out, hbw, rfl, rfl, rfl, rfl, by go_num⟩
      case round =>
        obtain ⟨k, l, o, hik, hk, hg2, hgo, hbi, rfl, rfl, rfl, rfl, rfl⟩ := hrel
        have HG2 := Lib.hid hg2
        have k2 := k1.next hbi
        have hB2 := bnext hB1 hbi
        clear hg2
        by_cases hlt2 : k < ps.length
        · rw [swIn_step x xs ps i k hlt2] at hgo
          obtain ⟨C, hC⟩ : ∃ C, costA x xs (swapL ps i k) = C := ⟨_, rfl⟩
          rw [hC] at hgo
          have HC := Lib.hid hC
          clear hC
          have i3 : (0 : Int) ≤ (k : Int) := by omega
          have i4 : (k : Int) < (ps.length : Int) := by omega
          have HSw := Lib.hid (swapL_all (p := fun n => 0 ≤ n ∧ n ≤ 60) hlt hlt2 HQ.out)
          by_cases hlt3 : C < l
          · have hd : decide (C < l) = true := by exact decide_eq_true hlt3
            rw [if_pos hlt3] at hgo
            have HF2 := Lib.hid hgo
            clear hgo hlt3
            go_wp2_with fail
            go_region_held3 (fun w' => w'.cell? ⟨w.heap.size, 0, none⟩ = some (.int .i64 x.1) ∧ w'.cell? ⟨w.heap.size, 1, none⟩ = some (.int .i64 x.2.1) ∧ w'.cell? ⟨w.heap.size, 2, none⟩ = some (.int .i64 x.2.2.1) ∧ w'.cell? ⟨w.heap.size, 3, none⟩ = some (.int .i64 x.2.2.2.1) ∧ w'.cell? ⟨w.heap.size, 4, none⟩ = some (.int .i64 x.2.2.2.2)) (first | exact k2.2) (first | (go_at_call 80; refine (swapped_any _ _ ps hpl i k hlt hlt2 _ (ry.below hB2).drew).mono ?_; rintro e w5 ⟨v5, rfl, o5, hb5⟩; replace hb5 := bundrew hb5; obtain ⟨g5, cap5, rfl⟩ := own_some o5 (by rw [swapL_len]; omega); have r5 := own_row o5; replace k2 := k2.next hb5; have hB5 := bnext hB2 hb5) | (go_at_call 114; refine (cost_any x hb _ _ xs hP _ _ (swapL ps i k) (by rw [swapL_len]; exact HN.out) HSw.out _ (rx.below hB5) r5).mono ?_; rintro e w6 ⟨rfl, hb6⟩; rw [HC.out]; replace k2 := k2.next hb6))
            go_wp2_with fail
            go_roundg (ps.length - (k + 1))
            case measure => rw [HG2.out]; omega
            case rel => exact ⟨k + 1, C, some (i, k), by omega, by omega, rfl, HF2.out, bnext hbi (bnext hb5 hb6), rfl, rfl, rfl, rfl, by go_num⟩
          · have hd : decide (C < l) = false := by exact decide_eq_false hlt3
            rw [if_neg hlt3] at hgo
            have HF2 := Lib.hid hgo
            clear hgo hlt3
            go_wp2_with fail
            go_region_held3 (fun w' => w'.cell? ⟨w.heap.size, 0, none⟩ = some (.int .i64 x.1) ∧ w'.cell? ⟨w.heap.size, 1, none⟩ = some (.int .i64 x.2.1) ∧ w'.cell? ⟨w.heap.size, 2, none⟩ = some (.int .i64 x.2.2.1) ∧ w'.cell? ⟨w.heap.size, 3, none⟩ = some (.int .i64 x.2.2.2.1) ∧ w'.cell? ⟨w.heap.size, 4, none⟩ = some (.int .i64 x.2.2.2.2)) (first | exact k2.2) (first | (go_at_call 80; refine (swapped_any _ _ ps hpl i k hlt hlt2 _ (ry.below hB2).drew).mono ?_; rintro e w5 ⟨v5, rfl, o5, hb5⟩; replace hb5 := bundrew hb5; obtain ⟨g5, cap5, rfl⟩ := own_some o5 (by rw [swapL_len]; omega); have r5 := own_row o5; replace k2 := k2.next hb5; have hB5 := bnext hB2 hb5) | (go_at_call 114; refine (cost_any x hb _ _ xs hP _ _ (swapL ps i k) (by rw [swapL_len]; exact HN.out) HSw.out _ (rx.below hB5) r5).mono ?_; rintro e w6 ⟨rfl, hb6⟩; rw [HC.out]; replace k2 := k2.next hb6))
            go_wp2_with fail
            go_roundg (ps.length - (k + 1))
            case measure => rw [HG2.out]; omega
            case rel => exact ⟨k + 1, l, o, by omega, by omega, rfl, HF2.out, bnext hbi (bnext hb5 hb6), rfl, rfl, rfl, rfl, by go_num⟩
        · have hgo2 : swOut x xs ps (ps.length - (i + 1)) (i + 1) l o = R := by
            rw [show ps.length - k = 0 by omega] at hgo; exact hgo
          have HF2 := Lib.hid hgo2
          clear hgo hgo2
          go_wp2_with fail
          go_roundg (ps.length - (i + 1))
          case measure => rw [HG.out]; omega
          case rel => exact ⟨i + 1, l, o, by omega, rfl, HF2.out, hbi, rfl, rfl, rfl, rfl, by go_num⟩
    · have hfin : o = R := by
        rw [show ps.length - i = 0 by omega] at hgo; exact hgo
      subst hfin
      clear HR hgo
      go_wp2_with fail
      go_ret3
      exact ⟨bnext hB1 hbw, _, _, _, rfl, rfl, rfl, rfl⟩
set_option maxHeartbeats 6400000 in
set_option maxRecDepth 10000 in
theorem l05Best_any (x : TBasket) (hb : BasketOk x) (A : Option Addr) (c : Nat) (xs : List (List Int)) (hP : PairsOk xs) (B : Option Addr) (d : Nat) (ps : List Int) (hn : ps.length = xs.length) (hQ : ∀ k (h : k < ps.length), 0 ≤ ps[k] ∧ ps[k] ≤ 60) (w : World) (rx : RowXX w A xs) (ry : Row w B encInt 1 ps) :
    Calls Try.prog 124 #[.agg #[.int .i64 x.1, .int .i64 x.2.1, .int .i64 x.2.2.1, .int .i64 x.2.2.2.1, .int .i64 x.2.2.2.2], .slice A xs.length c, .slice B ps.length d] w fun e w' => Below w.heap.size w w' ∧ ∃ n0 n1 : Int, e = .returned (.tuple #[.int .i64 n0, .int .i64 n1]) ∧ (n0 = fX (bestSw x xs ps) ∧ n1 = fY (bestSw x xs ps)) := by
  obtain ⟨W0, hW0⟩ : ∃ W0, W0 = w.alloc (.cells #[.int .i64 x.1, .int .i64 x.2.1, .int .i64 x.2.2.1, .int .i64 x.2.2.2.1, .int .i64 x.2.2.2.2] 32) := ⟨_, rfl⟩
  have hB0 : Below w.heap.size w W0 := by rw [hW0]; exact bal (Below.refl _ _) _
  have k0 : AtBasket W0 w.heap.size x := by rw [hW0]; exact AtBasket.new w _ x
  have HW := Lib.hid hW0
  clear hW0
  obtain ⟨R, hR⟩ : ∃ R, R = bestSw x xs ps := ⟨_, rfl⟩
  rw [← hR]
  have HR := Lib.hid hR
  clear hR
  have hn1 := hP.1.1
  have hn2 := hP.1.2
  have HN := Lib.hid hn
  have HQ := Lib.hid hQ
  have hnl : ps.length ≤ 7 := by omega
  have hpl : ps.length ≤ 1048576 := by omega
  clear hQ hn
  go_enter Try.func124, Try.ntmps124
  go_wp2_with fail
  rw [← HW.out]
  refine (l05Cost_any x hb _ _ xs hP _ _ ps HN.out HQ.out _ (rx.below hB0) (ry.below hB0)).mono ?_; rintro e w1 ⟨rfl, hb1⟩
  have k1 := k0.next hb1
  have hB1 := bnext hB0 hb1
  obtain ⟨L0, hL0⟩ : ∃ L0, costA x xs ps = L0 := ⟨_, rfl⟩
  rw [hL0]
  have HL0 := Lib.hid hL0
  clear hL0 k0
  go_wp2_with fail
  go_loopg [8, 9, 10, 11] ps.length (fun g xs_ ys_ ls_ is wr => ∃ (i : Nat) (l : Int) (o : Sw), i ≤ ps.length ∧ g = ps.length - i ∧ swOut x xs ps (ps.length - i) i l o = R ∧ Below w1.heap.size w1 wr ∧ xs_ = .int .i64 (fX o) ∧ ys_ = .int .i64 (fY o) ∧ ls_ = .int .i64 l ∧ is = .int .i64 i)
  case atStart => exact ⟨0, L0, none, Nat.zero_le _, rfl, by rw [HR.out, ← HL0.out]; rfl, Below.refl _ _, rfl, rfl, rfl, rfl⟩
  case round =>
    obtain ⟨i, l, o, hi, hg, hgo, hbw, rfl, rfl, rfl, rfl⟩ := hrel
    have HG := Lib.hid hg
    clear hg
    by_cases hlt : i < ps.length
    · rw [swOut_step x xs ps i hlt] at hgo
      have HF := Lib.hid hgo
      clear hgo
      have i1 : (0 : Int) ≤ (i : Int) := by omega
      have i2 : (i : Int) < (ps.length : Int) := by omega
      go_wp2_with fail
      go_loopg [8, 9, 10, 12] (ps.length - (i + 1)) (fun g2 xs_ ys_ ls_ ks wi => ∃ (k : Nat) (l : Int) (o : Sw), i + 1 ≤ k ∧ k ≤ ps.length ∧ g2 = ps.length - k ∧ swOut x xs ps (ps.length - (i + 1)) (i + 1) (swIn x xs ps i (ps.length - k) k l o).1 (swIn x xs ps i (ps.length - k) k l o).2 = R ∧ Below w1.heap.size w1 wi ∧ xs_ = .int .i64 (fX o) ∧ ys_ = .int .i64 (fY o) ∧ ls_ = .int .i64 l ∧ ks = .int .i64 k)
      case atStart => exact ⟨i + 1, l, o, Nat.le_refl _, by omega, by omega, HF.out, hbw, rfl, rfl, rfl, by go_num⟩
      case round =>
        obtain ⟨k, l, o, hik, hk, hg2, hgo, hbi, rfl, rfl, rfl, rfl⟩ := hrel
        have HG2 := Lib.hid hg2
        have k2 := k1.next hbi
        have hB2 := bnext hB1 hbi
        clear hg2
        by_cases hlt2 : k < ps.length
        · rw [swIn_step x xs ps i k hlt2] at hgo
          obtain ⟨C, hC⟩ : ∃ C, costA x xs (swapL ps i k) = C := ⟨_, rfl⟩
          rw [hC] at hgo
          have HC := Lib.hid hC
          clear hC
          have i3 : (0 : Int) ≤ (k : Int) := by omega
          have i4 : (k : Int) < (ps.length : Int) := by omega
          have HSw := Lib.hid (swapL_all (p := fun n => 0 ≤ n ∧ n ≤ 60) hlt hlt2 HQ.out)
          by_cases hlt3 : C < l
          · have hd : decide (C < l) = true := by exact decide_eq_true hlt3
            rw [if_pos hlt3] at hgo
            have HF2 := Lib.hid hgo
            clear hgo hlt3
            go_wp2_with fail
            go_region_held3 (fun w' => w'.cell? ⟨w.heap.size, 0, none⟩ = some (.int .i64 x.1) ∧ w'.cell? ⟨w.heap.size, 1, none⟩ = some (.int .i64 x.2.1) ∧ w'.cell? ⟨w.heap.size, 2, none⟩ = some (.int .i64 x.2.2.1) ∧ w'.cell? ⟨w.heap.size, 3, none⟩ = some (.int .i64 x.2.2.2.1) ∧ w'.cell? ⟨w.heap.size, 4, none⟩ = some (.int .i64 x.2.2.2.2)) (first | exact k2.2) (first | (go_at_call 78; refine (l05Swap_any _ _ ps hpl i k hlt hlt2 _ (ry.below hB2).drew).mono ?_; rintro e w5 ⟨v5, rfl, o5, hb5⟩; replace hb5 := bundrew hb5; obtain ⟨g5, cap5, rfl⟩ := own_some o5 (by rw [swapL_len]; omega); have r5 := own_row o5; replace k2 := k2.next hb5; have hB5 := bnext hB2 hb5) | (go_at_call 149; refine (l05Cost_any x hb _ _ xs hP _ _ (swapL ps i k) (by rw [swapL_len]; exact HN.out) HSw.out _ (rx.below hB5) r5).mono ?_; rintro e w6 ⟨rfl, hb6⟩; rw [HC.out]; replace k2 := k2.next hb6))
            go_wp2_with fail
            go_roundg (ps.length - (k + 1))
            case measure => rw [HG2.out]; omega
            case rel => exact ⟨k + 1, C, some (i, k), by omega, by omega, rfl, HF2.out, bnext hbi (bnext hb5 hb6), rfl, rfl, rfl, by go_num⟩
          · have hd : decide (C < l) = false := by exact decide_eq_false hlt3
            rw [if_neg hlt3] at hgo
            have HF2 := Lib.hid hgo
            clear hgo hlt3
            go_wp2_with fail
            go_region_held3 (fun w' => w'.cell? ⟨w.heap.size, 0, none⟩ = some (.int .i64 x.1) ∧ w'.cell? ⟨w.heap.size, 1, none⟩ = some (.int .i64 x.2.1) ∧ w'.cell? ⟨w.heap.size, 2, none⟩ = some (.int .i64 x.2.2.1) ∧ w'.cell? ⟨w.heap.size, 3, none⟩ = some (.int .i64 x.2.2.2.1) ∧ w'.cell? ⟨w.heap.size, 4, none⟩ = some (.int .i64 x.2.2.2.2)) (first | exact k2.2) (first | (go_at_call 78; refine (l05Swap_any _ _ ps hpl i k hlt hlt2 _ (ry.below hB2).drew).mono ?_; rintro e w5 ⟨v5, rfl, o5, hb5⟩; replace hb5 := bundrew hb5; obtain ⟨g5, cap5, rfl⟩ := own_some o5 (by rw [swapL_len]; omega); have r5 := own_row o5; replace k2 := k2.next hb5; have hB5 := bnext hB2 hb5) | (go_at_call 149; refine (l05Cost_any x hb _ _ xs hP _ _ (swapL ps i k) (by rw [swapL_len]; exact HN.out) HSw.out _ (rx.below hB5) r5).mono ?_; rintro e w6 ⟨rfl, hb6⟩; rw [HC.out]; replace k2 := k2.next hb6))
            go_wp2_with fail
            go_roundg (ps.length - (k + 1))
            case measure => rw [HG2.out]; omega
            case rel => exact ⟨k + 1, l, o, by omega, by omega, rfl, HF2.out, bnext hbi (bnext hb5 hb6), rfl, rfl, rfl, by go_num⟩
        · have hgo2 : swOut x xs ps (ps.length - (i + 1)) (i + 1) l o = R := by
            rw [show ps.length - k = 0 by omega] at hgo; exact hgo
          have HF2 := Lib.hid hgo2
          clear hgo hgo2
          go_wp2_with fail
          go_roundg (ps.length - (i + 1))
          case measure => rw [HG.out]; omega
          case rel => exact ⟨i + 1, l, o, by omega, rfl, HF2.out, hbi, rfl, rfl, rfl, by go_num⟩
    · have hfin : o = R := by
        rw [show ps.length - i = 0 by omega] at hgo; exact hgo
      subst hfin
      clear HR hgo
      go_wp2_with fail
      go_ret2
      exact ⟨bnext hB1 hbw, _, _, rfl, rfl, rfl⟩
end Go.Proofs.Ytbcomfobnhekpaa
