/-
  FBest: the arrangement with the least cost: BestArrange, spec and impl.
-/
import Derived.Test.YteepcnfpdmmnhaaFWalkS
import Derived.Test.YteepcnfpdmmnhaaFNextP
import Derived.Test.YteepcnfpdmmnhaaRes3
import Derived.Test.YteepcnfpdmmnhaaMaps
import Derived.Deep.QuietTactic
namespace Go.Proofs.Yteepcnfpdmmnhaa
open Go.RowKit
set_option linter.unusedVariables false
attribute [local go_sem ↓] Go.wp_at_zero Go.wp_at_succ
set_option linter.unusedSimpArgs false
theorem fold_len {C : List Nat → Int} {n : Nat} : ∀ (L : List (List Nat)) (st : List Nat × Int), (∀ q ∈ L, q.length = n) → st.1.length = n → (L.foldl (updP C) st).1.length = n
  | [], st, _, h => h
  | q :: L, st, hq, h => by
    rw [List.foldl_cons]
    refine fold_len L _ (fun r hr => hq r (List.mem_cons_of_mem _ hr)) ?_
    unfold updP
    split
    · exact hq q (List.mem_cons_self ..)
    · exact h
theorem best_chain (x : TBasket) (hb : BasketOk x) (xs : List (List Int)) (h : PairsOk xs) : ∃ L, chainG (List.range xs.length) L = true ∧ bestR x xs = L.foldl (updP (costD x xs)) (List.range xs.length, costD x xs (List.range xs.length)) ∧ ∀ q ∈ L, q.length = xs.length ∧ ∀ p ∈ q, p < xs.length := by
  obtain ⟨t, ht, hc⟩ := chain_start xs.length (by have := h.1.1; omega) (by have := h.1.2; omega)
  refine ⟨t, hc, ?_, fun q hq => ?_⟩
  · unfold bestR
    exact walk_chain (costD_mono x hb xs h) xs.length [] (List.range xs.length) t ht
  · have := permsG_all xs.length xs.length [] q (by rw [ht]; exact List.mem_cons_of_mem _ hq) (fun p hp => by cases hp)
    refine ⟨?_, this.2⟩
    have h1 := this.1
    simp at h1
    exact h1
theorem bestR_len (x : TBasket) (hb : BasketOk x) (xs : List (List Int)) (h : PairsOk xs) : (bestR x xs).1.length = xs.length := by
  obtain ⟨L, _, h2, h3⟩ := best_chain x hb xs h
  rw [h2]
  exact fold_len L _ (fun q hq => (h3 q hq).1) (by simp)
theorem costD_nil (x : TBasket) (xs : List (List Int)) : costD x xs [] = 0 := rfl
theorem M_best_ok {x : TBasket} {xs : List (List Int)} (h : BasketOk x) (h2 : PairsOk xs) (h3 : ¬ x.1 < (xs.length : Int)) : M_BestArrange x xs = (toI (bestR x xs).1, (bestR x xs).2, 0) := by unfold M_BestArrange; rw [if_pos h, if_pos h2, if_neg h3]
theorem M_best_full {x : TBasket} {xs : List (List Int)} (h : BasketOk x) (h2 : PairsOk xs) (h3 : x.1 < (xs.length : Int)) : M_BestArrange x xs = ([], 0, 5) := by unfold M_BestArrange; rw [if_pos h, if_pos h2, if_pos h3]
theorem M_best_no1 {x : TBasket} {xs : List (List Int)} (h : ¬ BasketOk x) : M_BestArrange x xs = ([], 0, 1) := by unfold M_BestArrange; rw [if_neg h]
theorem M_best_no2 {x : TBasket} {xs : List (List Int)} (h : BasketOk x) (h2 : ¬ PairsOk xs) : M_BestArrange x xs = ([], 0, 1) := by unfold M_BestArrange; rw [if_pos h, if_neg h2]
theorem AtBasket.grownX {w w' : World} {row : Option Nat} {b : Nat} {x : TBasket} (h : AtBasket w b x) (hg : w.grownBy w' row) (hne : some b ≠ row) : AtBasket w' b x :=
  ⟨Nat.lt_of_lt_of_le h.1 hg.size, (grown_cell hg h.1 hne).trans h.2.1, (grown_cell hg h.1 hne).trans h.2.2.1, (grown_cell hg h.1 hne).trans h.2.2.2.1, (grown_cell hg h.1 hne).trans h.2.2.2.2.1, (grown_cell hg h.1 hne).trans h.2.2.2.2.2⟩
theorem range_app (k : Nat) : toI (List.range (k + 1)) = toI (List.range k) ++ [(k : Int)] := by rw [List.range_succ, toI_app]
set_option maxHeartbeats 6400000 in
set_option maxRecDepth 10000 in
theorem spec_BestArrange_any (x : TBasket) (hx : okBasket x) (A : Option Addr) (c : Nat) (xs : List (List Int)) (hxl : xs.length ≤ 1048576) (hu : ∀ r ∈ xs, r.length ≤ 1048576 ∧ ∀ x ∈ r, I64 x) (w : World) (rx : RowXX w A xs) :
    Calls Try.prog 52 #[.agg #[.int .i64 x.1, .int .i64 x.2.1, .int .i64 x.2.2.1, .int .i64 x.2.2.2.1, .int .i64 x.2.2.2.2], .slice A xs.length c] w (RL3 encInt 1 2 (M_BestArrange x xs) w) := by
  obtain ⟨i0, hi0, hz, hsz, hby⟩ := info_parts info_Int64S
  obtain ⟨W0, hW0⟩ : ∃ W0, W0 = w.alloc (.cells #[.int .i64 x.1, .int .i64 x.2.1, .int .i64 x.2.2.1, .int .i64 x.2.2.2.1, .int .i64 x.2.2.2.2] 29) := ⟨_, rfl⟩
  have hB0 : Below w.heap.size w W0 := by rw [hW0]; exact bal (Below.refl _ _) _
  have k0 : AtBasket W0 w.heap.size x := by rw [hW0]; exact AtBasket.new w _ x
  have HW := Lib.hid hW0
  clear hW0
  rcases ff3 (BasketOk x) (PairsOk xs) (¬ x.1 < (xs.length : Int)) with h | ⟨h, h2⟩ | ⟨h, h2, h3⟩ | ⟨h, h2, h3⟩
  · have HM := Lib.hid (M_best_no1 (xs := xs) h)
    go_enter Try.func52, Try.ntmps52
    go_wp2_with fail
    rw [← HW.out]
    refine (RBb.no (l03Ok_any x _) h).mono ?_; rintro e w1 ⟨rfl, hb1⟩
    have k1 := k0.next hb1
    have hB1 := bnext hB0 hb1
    go_wp2_with fail
    go_ret3
    exact RL3.no (fun _ => rfl) HM.out.symm hB1
  · have HM := Lib.hid (M_best_no2 h h2)
    go_enter Try.func52, Try.ntmps52
    go_wp2_with fail
    rw [← HW.out]
    refine (RBb.yes (l03Ok_any x _) h).mono ?_; rintro e w1 ⟨rfl, hb1⟩
    have k1 := k0.next hb1
    have hB1 := bnext hB0 hb1
    go_wp2_with (go_at_call 106; refine (RB.no (l05Ok_any _ _ xs hxl hu _ (rx.below hB1)) h2).mono ?_; rintro e w2 ⟨rfl, rfl⟩)
    go_ret3
    exact RL3.no (fun _ => rfl) HM.out.symm hB1
  · rw [Classical.not_not] at h3
    have HM := Lib.hid (M_best_full h h2 h3)
    have t3 : decide (x.1 < (xs.length : Int)) = true := decide_eq_true h3
    go_enter Try.func52, Try.ntmps52
    go_wp2_with fail
    rw [← HW.out]
    refine (RBb.yes (l03Ok_any x _) h).mono ?_; rintro e w1 ⟨rfl, hb1⟩
    have k1 := k0.next hb1
    have hB1 := bnext hB0 hb1
    go_wp2_with (go_at_call 106; refine (RB.yes (l05Ok_any _ _ xs hxl hu _ (rx.below hB1)) h2).mono ?_; rintro e w2 ⟨rfl, rfl⟩)
    go_ret3
    exact RL3.no (fun _ => rfl) HM.out.symm hB1
  have HM := Lib.hid (M_best_ok h h2 h3)
  have t3 : decide (x.1 < (xs.length : Int)) = false := decide_eq_false h3
  have hn7 : xs.length ≤ 7 := by have := h2.1.2; omega
  have hn2 : 2 ≤ xs.length := by have := h2.1.1; omega
  have hlen := bestR_len x h xs h2
  have HL := Lib.hid (show (toI (bestR x xs).1).length ≤ 1048576 by rw [toI_len, hlen]; omega)
  clear hlen
  go_enter Try.func52, Try.ntmps52
  go_wp2_with fail
  rw [← HW.out]
  refine (RBb.yes (l03Ok_any x _) h).mono ?_; rintro e w1 ⟨rfl, hb1⟩
  have k1 := k0.next hb1
  have hB1 := bnext hB0 hb1
  have WC := fun W (hW : WalkAt w1 W (w1.heap.size + 1) w1.heap.size x A c xs [] ([], -1)) => walk_any x h A c xs h2 w1 (rx.below hB1) (w1.heap.size + 1) w1.heap.size (by omega) (Nat.le_refl _) xs.length [] ([], -1) W (by simp) (fun p hp => by cases hp) (by simp) hW
  rw [costD_nil] at WC
  have o1 := Own.lit0 (e := encInt) (s := 1) w1 (fun _ => rfl) w1.heap.size 2 (Nat.le_refl _)
  have t9 := At9.new (w1.alloc (.cells #[] 2)) 154 (.int .i64 x.1) (.int .i64 x.2.1) (.int .i64 x.2.2.1) (.int .i64 x.2.2.2.1) (.int .i64 x.2.2.2.2) (.slice A xs.length c) (.slice (some ⟨w1.heap.size, 0, none⟩) 0 0) (.slice none 0 0) (.int .i64 (-1))
  rw [World.size_alloc] at t9
  have hW0 : WalkAt w1 ((w1.alloc (.cells #[] 2)).alloc (.cells #[.int .i64 x.1, .int .i64 x.2.1, .int .i64 x.2.2.1, .int .i64 x.2.2.2.1, .int .i64 x.2.2.2.2, .slice A xs.length c, .slice (some ⟨w1.heap.size, 0, none⟩) 0 0, .slice none 0 0, .int .i64 (-1)] 154)) (w1.heap.size + 1) w1.heap.size x A c xs [] ([], -1) :=
    ⟨_, _, t9, o1.below (bal (Below.refl _ _) _), Own.nilv (e := encInt) (s := 1) _ (fun _ => rfl) _ _, fun g hg => by simp [Value.ownBlock] at hg; omega, Apart.none, fun g hg hg2 => by simp [Value.ownBlock] at hg2, bal (bal (Below.refl _ _) _) _, by simp; omega⟩
  have HWC := Lib.hid (WC _ hW0)
  clear WC hW0 t9 o1
  go_wp2_with (first | (go_at_call 106; refine (RB.yes (l05Ok_any _ _ xs hxl hu _ (rx.below hB1)) h2).mono ?_; rintro e w2 ⟨rfl, rfl⟩) | (go_at_call 107; refine HWC.out.mono ?_; rintro e w5 ⟨rfl, vn, vb, hm5, hon5, hob5, han5, hab5, hnb5, hbw5, hbs5⟩; obtain ⟨Ab, nb, cb, rfl⟩ := own_slice hob5; have q7 := hm5.cell7; have q8 := hm5.cell8; have hq := hm5.lt))
  go_wp2_with (go_quiet (fail))
  go_ret3
  exact RL3.mk HM.out.symm HL.out ((hob5.mono hB1.size).below (bdrewN (Below.refl _ _) _)) (bdrewN (hB1.trans (hbw5.mono hB1.size)) _)
set_option maxHeartbeats 6400000 in
set_option maxRecDepth 10000 in
theorem impl_BestArrange_any (x : TBasket) (hx : okBasket x) (A : Option Addr) (c : Nat) (xs : List (List Int)) (hxl : xs.length ≤ 1048576) (hu : ∀ r ∈ xs, r.length ≤ 1048576 ∧ ∀ x ∈ r, I64 x) (w : World) (rx : RowXX w A xs) :
    Calls Try.prog 54 #[.agg #[.int .i64 x.1, .int .i64 x.2.1, .int .i64 x.2.2.1, .int .i64 x.2.2.2.1, .int .i64 x.2.2.2.2], .slice A xs.length c] w (RL3 encInt 1 2 (M_BestArrange x xs) w) := by
  obtain ⟨i0, hi0, hz, hsz, hby⟩ := info_parts info_Int64S
  obtain ⟨W0, hW0⟩ : ∃ W0, W0 = w.alloc (.cells #[.int .i64 x.1, .int .i64 x.2.1, .int .i64 x.2.2.1, .int .i64 x.2.2.2.1, .int .i64 x.2.2.2.2] 29) := ⟨_, rfl⟩
  have hB0 : Below w.heap.size w W0 := by rw [hW0]; exact bal (Below.refl _ _) _
  have k0 : AtBasket W0 w.heap.size x := by rw [hW0]; exact AtBasket.new w _ x
  have HW := Lib.hid hW0
  clear hW0
  rcases ff3 (BasketOk x) (PairsOk xs) (¬ x.1 < (xs.length : Int)) with h | ⟨h, h2⟩ | ⟨h, h2, h3⟩ | ⟨h, h2, h3⟩
  · have HM := Lib.hid (M_best_no1 (xs := xs) h)
    go_enter Try.func54, Try.ntmps54
    go_wp2_with fail
    rw [← HW.out]
    refine (RBb.no (iValidBasket_any x _) h).mono ?_; rintro e w1 ⟨rfl, hb1⟩
    have k1 := k0.next hb1
    have hB1 := bnext hB0 hb1
    go_wp2_with fail
    go_ret3
    exact RL3.no (fun _ => rfl) HM.out.symm hB1
  · have HM := Lib.hid (M_best_no2 h h2)
    go_enter Try.func54, Try.ntmps54
    go_wp2_with fail
    rw [← HW.out]
    refine (RBb.yes (iValidBasket_any x _) h).mono ?_; rintro e w1 ⟨rfl, hb1⟩
    have k1 := k0.next hb1
    have hB1 := bnext hB0 hb1
    go_wp2_with (go_at_call 110; refine (RB.no (iValidPairs_any _ _ xs hxl hu _ (rx.below hB1)) h2).mono ?_; rintro e w2 ⟨rfl, rfl⟩)
    go_ret3
    exact RL3.no (fun _ => rfl) HM.out.symm hB1
  · rw [Classical.not_not] at h3
    have HM := Lib.hid (M_best_full h h2 h3)
    have t3 : decide (x.1 < (xs.length : Int)) = true := decide_eq_true h3
    go_enter Try.func54, Try.ntmps54
    go_wp2_with fail
    rw [← HW.out]
    refine (RBb.yes (iValidBasket_any x _) h).mono ?_; rintro e w1 ⟨rfl, hb1⟩
    have k1 := k0.next hb1
    have hB1 := bnext hB0 hb1
    go_wp2_with (go_at_call 110; refine (RB.yes (iValidPairs_any _ _ xs hxl hu _ (rx.below hB1)) h2).mono ?_; rintro e w2 ⟨rfl, rfl⟩)
    go_ret3
    exact RL3.no (fun _ => rfl) HM.out.symm hB1
  have HM := Lib.hid (M_best_ok h h2 h3)
  have t3 : decide (x.1 < (xs.length : Int)) = false := decide_eq_false h3
  have hn7 : xs.length ≤ 7 := by have := h2.1.2; omega
  have hn2 : 2 ≤ xs.length := by have := h2.1.1; omega
  have hlen := bestR_len x h xs h2
  have HL := Lib.hid (show (toI (bestR x xs).1).length ≤ 1048576 by rw [toI_len, hlen]; omega)
  clear hlen
  go_enter Try.func54, Try.ntmps54
  go_wp2_with fail
  rw [← HW.out]
  refine (RBb.yes (iValidBasket_any x _) h).mono ?_; rintro e w1 ⟨rfl, hb1⟩
  have k1 := k0.next hb1
  have hB1 := bnext hB0 hb1
  obtain ⟨BS, hBS⟩ : ∃ BS, BS = w1.heap.size := ⟨_, rfl⟩
  have o1 : Own (w1.alloc (.cells #[] 2)) BS 2 encInt 1 (.slice (some ⟨w1.heap.size, 0, none⟩) 0 0) [] := by rw [hBS]; exact Own.lit0 (e := encInt) (s := 1) w1 (fun _ => rfl) w1.heap.size 2 (Nat.le_refl _)
  have hBl := bal hB1 (.cells #[] 2)
  have kl := k1.next (bal (Below.refl _ _) (.cells #[] 2))
  have HN := Lib.hid (show w.heap.size < BS by have := k1.1; omega)
  have HBSl := Lib.hid (show BS ≤ w1.heap.size by omega)
  obtain ⟨L0, hc0, hb0, hl0⟩ := best_chain x h xs h2
  have HC0 := Lib.hid hc0
  have HB00 := Lib.hid hb0
  have HL0 := Lib.hid hl0
  clear hc0 hb0 hl0 hBS k0
  go_wp2_with (go_at_call 110; refine (RB.yes (iValidPairs_any _ _ xs hxl hu _ (rx.below hB1)) h2).mono ?_; rintro e w2 ⟨rfl, rfl⟩)
  go_loopg [7, 28] xs.length (fun g vs is wr => ∃ k : Nat, k ≤ xs.length ∧ g = xs.length - k ∧ Own wr BS 2 encInt 1 vs (toI (List.range k)) ∧ AtBasket wr w.heap.size x ∧ BS ≤ wr.heap.size ∧ Below w.heap.size w wr ∧ is = .int .i64 k)
  case atStart => exact ⟨0, Nat.zero_le _, rfl, o1, kl, Nat.le_trans HBSl.out (by simp), hBl, rfl⟩
  case round =>
    obtain ⟨k, hkx, hg, hown, hk, hbs, hbw, rfl⟩ := hrel
    have HG := Lib.hid hg
    clear hg o1 kl hBl
    by_cases hlt : k < xs.length
    · have o2 := hown.below (bal (Below.refl _ _) (.cells #[.int .i64 (k : Int)] 2))
      have hB2 := bal hbw (.cells #[.int .i64 (k : Int)] 2)
      have hk2 := hk.next (bal (Below.refl _ _) (.cells #[.int .i64 (k : Int)] 2))
      have hBS2 : BS ≤ (wr.alloc (.cells #[.int .i64 (k : Int)] 2)).heap.size := by rw [World.size_alloc]; omega
      go_wp2_with (at_builtin; refine app_own rfl _ _ 26 rfl BS 2 i0 _ 1 8 Try.underlying26 hi0 hz hsz hby rfl (by decide) _ (toI (List.range k)) rfl o2 ⟨wr.heap.size, 0, none⟩ 1 (k : Int) rfl (cell_one_new _ _ _) (by simp [Value.oneCell']) (by rw [toI_len, List.length_range]; unfold maxLen; omega) (by rw [toI_len, List.length_range]; omega) hBS2 ?_; intro v2 w2 hown2 hg2)
      go_roundg (xs.length - (k + 1))
      case measure => rw [HG.out]; omega
      case rel => exact ⟨k + 1, by omega, rfl, by rw [range_app]; exact hown2, hk2.grownX hg2 (own_ne o2 HN.out), Nat.le_trans hBS2 hg2.size, hB2.trans (below_own (B := w.heap.size) o2 hg2 (Nat.le_of_lt HN.out) hB2.size), by go_num⟩
    · have hke : k = xs.length := by omega
      subst hke
      obtain ⟨WO, rfl⟩ : ∃ WO, WO = wr := ⟨wr, rfl⟩
      obtain ⟨gp, cp, rfl⟩ := own_some hown (by rw [toI_len, List.length_range]; omega)
      rw [toI_len, List.length_range] at hown ⊢
      have hgp := hown.blk
      have rowP := own_row hown
      have ol := Own.lit0 (e := encInt) (s := 1) WO (fun _ => rfl) WO.heap.size 2 (Nat.le_refl _)
      have hBl := bal (Below.refl WO.heap.size WO) (.cells #[] 2)
      have hrl : (toI (List.range xs.length)).length = xs.length := by rw [toI_len, List.length_range]
      have hall : ∀ k (h : k < (toI (List.range xs.length)).length), 0 ≤ (toI (List.range xs.length))[k] ∧ (toI (List.range xs.length))[k] ≤ 60 := fun k hk => by
        rw [hrl] at hk
        rw [toI_at (List.range xs.length) k (by simpa using hk), List.getElem_range]
        omega
      have CC := fun W (r1 : RowXX W A xs) (r2 : Row W (some ⟨gp, 0, none⟩) encInt 1 (toI (List.range xs.length))) => cost_any x h A c xs h2 (some ⟨gp, 0, none⟩) cp (toI (List.range xs.length)) hrl hall W r1 r2
      rw [hrl, ← costD_full x xs h2 (List.range xs.length) (by simp)] at CC
      obtain ⟨C0, hC0⟩ : ∃ C0, costD x xs (List.range xs.length) = C0 := ⟨_, rfl⟩
      have hC0b := costD_bd x h xs h2 (List.range xs.length) (by simp; omega)
      rw [hC0] at CC hC0b
      have HC := Lib.hid hC0
      have HCC := Lib.hid CC
      have HCb := Lib.hid hC0b
      have HOw := Lib.hid hown
      have rowL := rowP.below hBl
      have Hrl := Lib.hid hrl
      clear CC hC0 hC0b hrl hall
      go_wp2_with (first | (go_at_call 111; refine (HCC.out _ (rx.below hbw5) (rowP.below hb5)).mono ?_; rintro e w6 ⟨rfl, hb6⟩) | (at_builtin; refine app_ints rfl _ _ 26 rfl WO.heap.size 2 i0 _ 8 Try.underlying26 hi0 hz hsz hby rfl _ [] rfl ol gp 0 xs.length cp (toI (List.range xs.length)) Hrl.out rfl rowL (by simp [maxLen]; omega) (by simp; omega) (by simp) ?_; intro v5 w5 ho5 hg5; rw [List.nil_append] at ho5; have hb5 : Below WO.heap.size WO w5 := hBl.trans (below_own ol hg5 (Nat.le_refl _) hBl.size); have hbw5 := hbw.trans (hb5.mono hbw.size); have hk5 := hk.next hb5; clear hg5))
      go_loopg [9, 10] L0.length (fun g bs ls wi => ∃ (q bl : List Nat) (L : List (List Nat)) (lc : Int), g = L.length ∧ chainG q L = true ∧ L.foldl (updP (costD x xs)) (bl, lc) = bestR x xs ∧ (q.length = xs.length ∧ bl.length = xs.length ∧ ∀ r ∈ L, r.length = xs.length ∧ ∀ p ∈ r, p < xs.length) ∧ (0 ≤ lc ∧ lc ≤ 9800000) ∧ Own wi BS 2 encInt 1 (.slice (some ⟨gp, 0, none⟩) xs.length cp) (toI q) ∧ Own wi BS 2 encInt 1 bs (toI bl) ∧ Apart bs gp ∧ AtBasket wi w.heap.size x ∧ Below w.heap.size w wi ∧ ls = .int .i64 lc)
      case atStart =>
        exact ⟨List.range xs.length, List.range xs.length, L0, C0, rfl, HC0.out, by rw [HB00.out, HC.out], ⟨by simp, by simp, HL0.out⟩, HCb.out, (HOw.out.below hb5).below hb6, (ho5.mono hbs).below hb6, fun g hg he => by have := (ho5.2.lt g hg).1; omega, hk5.next hb6, bnext hbw5 hb6, rfl⟩
      case round =>
        obtain ⟨q, bl, L, lc, hg, hch, hfo, ⟨hql, hbll, hLl⟩, ⟨hlc0, hlc9⟩, hown, hob, hab, hk, hbw, rfl⟩ := hrel
        obtain ⟨WI, rfl⟩ : ∃ WI, WI = wr := ⟨wr, rfl⟩
        have HG := Lib.hid hg
        clear hg ol hBl rowP rowL hb5 hb6 hk5 hbw5 ho5
        have NC := fun W (ho : Own W BS 2 encInt 1 (.slice (some ⟨gp, 0, none⟩) q.length cp) (toI q)) => nextPermutation_any gp cp BS q (by omega) (by omega) W ho
        rw [hql] at NC
        have HQl := Lib.hid hql
        obtain ⟨Ab, nb, cb, rfl⟩ := own_slice hob
        cases L with
        | nil =>
          have hnx : nextP q = none := by
            unfold chainG at hch
            cases hq : nextP q with
            | none => rfl
            | some r => rw [hq] at hch; simp at hch
          rw [hnx] at NC
          have HNC := Lib.hid NC
          have HF := Lib.hid (show bestR x xs = (bl, lc) from hfo.symm)
          clear NC hch hfo hql
          go_wp2_with (go_at_call 112; refine (HNC.out _ hown).mono ?_; rintro e w7 ⟨rfl, ho7, hg7⟩; dsimp only [Option.isSome])
          go_ret3
          exact RL3.mk (by rw [HM.out, HF.out]) (by rw [toI_len, hbll]; omega) ((hob.kept hg7 hab.or).mono (Nat.le_of_lt HN.out)) (below_grown hbw hg7 hbw.size (by have := hgp.1; have := HN.out; omega))
        | cons r L =>
          have hnx : nextP q = some r := by
            unfold chainG at hch
            rw [Bool.and_eq_true] at hch
            exact eqON_eq hch.1
          have hch2 : chainG r L = true := by
            unfold chainG at hch
            rw [Bool.and_eq_true] at hch
            exact hch.2
          have hr := hLl r (List.mem_cons_self ..)
          have hrl := hr.1
          rw [hnx] at NC
          rw [List.foldl_cons] at hfo
          have HNC := Lib.hid NC
          have HCh := Lib.hid hch2
          have HLl := Lib.hid (fun r' (hr' : r' ∈ L) => hLl r' (List.mem_cons_of_mem _ hr'))
          have hrI : (toI r).length = xs.length := by rw [toI_len, hrl]
          have hall : ∀ k (h : k < (toI r).length), 0 ≤ (toI r)[k] ∧ (toI r)[k] ≤ 60 := fun k hk => by
            rw [hrI] at hk
            rw [toI_at r k (by omega)]
            have := hr.2 r[k] (List.getElem_mem _)
            omega
          have CC := fun W (r1 : RowXX W A xs) (r2 : Row W (some ⟨gp, 0, none⟩) encInt 1 (toI r)) => cost_any x h A c xs h2 (some ⟨gp, 0, none⟩) cp (toI r) hrI hall W r1 r2
          rw [hrI, ← costD_full x xs h2 r hrl] at CC
          obtain ⟨C1, hC1⟩ : ∃ C1, costD x xs r = C1 := ⟨_, rfl⟩
          have hC1b := costD_bd x h xs h2 r (by omega)
          rw [hC1] at CC hC1b
          have HCC2 := Lib.hid CC
          have HCb2 := Lib.hid hC1b
          have HrI := Lib.hid hrI
          have Hrl2 := Lib.hid hrl
          have Hbll := Lib.hid hbll
          by_cases hless : C1 < lc
          · have HF := Lib.hid (show L.foldl (updP (costD x xs)) (r, C1) = bestR x xs by rw [← hfo]; congr 1; unfold updP; rw [hC1, if_pos (.inr hless)])
            have t5 : decide (C1 < lc) = true := decide_eq_true hless
            clear NC hch hch2 hfo hql hr hnx hLl hall CC hC1 hC1b hless hrI hrl hbll
            go_wp2_with (first | (at_builtin; refine app_ints rfl _ _ 26 rfl w8.heap.size 2 i0 _ 8 Try.underlying26 hi0 hz hsz hby rfl _ [] rfl ol gp 0 xs.length cp (toI r) HrI.out rfl (rowP8.below hBl) (by simp [maxLen]; omega) (by simp; omega) (by simp) ?_; intro v9 w9 ho9 hg9; rw [List.nil_append] at ho9; have hb9 : Below w8.heap.size w8 w9 := hBl.trans (below_own ol hg9 (Nat.le_refl _) hBl.size); clear hg9) | (go_at_call 111; refine (HCC2.out _ (rx.below hbw7) rowP7).mono ?_; rintro e w8 ⟨rfl, hb8⟩; have ol := Own.lit0 (e := encInt) (s := 1) w8 (fun _ => rfl) w8.heap.size 2 (Nat.le_refl _); have hBl := bal (Below.refl w8.heap.size w8) (.cells #[] 2); have rowP8 := rowP7.below hb8) | (go_at_call 112; refine (HNC.out _ hown).mono ?_; rintro e w7 ⟨rfl, ho7, hg7⟩; dsimp only [Option.isSome]; have ho7' : Own w7 BS 2 encInt 1 (.slice (some ⟨gp, 0, none⟩) xs.length cp) (toI r) := ho7; have rowP7 := own_row ho7'; have hbw7 := below_grown hbw hg7 hbw.size (by have := hgp.1; have := HN.out; omega); have hk7 := hk.grownX hg7 (by intro hh; injection hh with hh; have := hgp.1; have := HN.out; omega)))
            go_roundg L.length
            case measure => rw [HG.out]; simp
            case rel =>
              have hb89 := bnext hb8 hb9
              exact ⟨r, r, L, C1, rfl, HCh.out, HF.out, ⟨Hrl2.out, Hrl2.out, HLl.out⟩, HCb2.out, ho7'.below hb89, ho9.mono (Nat.le_trans hgp.1 (Nat.le_of_lt (Nat.lt_of_lt_of_le ho7'.blk.2 hb8.size))), fun g hg he => by have h1 := (ho9.2.lt g hg).1; have h2 := ho7'.blk.2; have h3 := hb8.size; omega, hk7.next hb89, bnext hbw7 hb89, rfl⟩
          · have HF := Lib.hid (show L.foldl (updP (costD x xs)) (bl, lc) = bestR x xs by rw [← hfo]; congr 1; unfold updP; rw [hC1, if_neg (by omega)])
            have t5 : decide (C1 < lc) = false := decide_eq_false hless
            clear NC hch hch2 hfo hql hr hnx hLl hall CC hC1 hC1b hless hrI hrl hbll
            go_wp2_with (first | (go_at_call 111; refine (HCC2.out _ (rx.below hbw7) rowP7).mono ?_; rintro e w8 ⟨rfl, hb8⟩) | (go_at_call 112; refine (HNC.out _ hown).mono ?_; rintro e w7 ⟨rfl, ho7, hg7⟩; dsimp only [Option.isSome]; have ho7' : Own w7 BS 2 encInt 1 (.slice (some ⟨gp, 0, none⟩) xs.length cp) (toI r) := ho7; have rowP7 := own_row ho7'; have hbw7 := below_grown hbw hg7 hbw.size (by have := hgp.1; have := HN.out; omega); have hk7 := hk.grownX hg7 (by intro hh; injection hh with hh; have := hgp.1; have := HN.out; omega)))
            go_roundg L.length
            case measure => rw [HG.out]; simp
            case rel =>
              exact ⟨r, bl, L, lc, rfl, HCh.out, HF.out, ⟨Hrl2.out, Hbll.out, HLl.out⟩, ⟨hlc0, hlc9⟩, ho7'.below hb8, (hob.kept hg7 hab.or).below hb8, hab, hk7.next hb8, bnext hbw7 hb8, rfl⟩
end Go.Proofs.Yteepcnfpdmmnhaa
