/-
  FPrinted: the strokes that are printed: PrintedOf, spec and impl.
-/
import Derived.Test.YtbcomfobnhekpaaFStrokesS
import Derived.Test.YtbcomfobnhekpaaFJam
import Derived.Test.YtbcomfobnhekpaaApps
import Derived.Test.YtbcomfobnhekpaaTInt64S
import Derived.Deep.RegionHeld3
namespace Go.Proofs.Ytbcomfobnhekpaa
open Go.RowKit
set_option linter.unusedVariables false
set_option linter.unusedSimpArgs false
attribute [local go_sem ↓] Go.wp_at_zero Go.wp_at_succ
def freeGo (x : TBasket) (xs : List TStroke) (t : TStroke) : List Int → Bool → Bool
  | [], b => b
  | k :: ks, b => freeGo x xs t ks (b && !decide (jamP x t (xs.getD k.toNat (0, 0))))
def prGo (x : TBasket) (xs : List TStroke) : Nat → Nat → List Int → List Int
  | 0, _, out => out
  | g + 1, i, out => prGo x xs g (i + 1) (if freeGo x xs (xs.getD i (0, 0)) out true = true then out ++ [(i : Int)] else out)
def printedL (x : TBasket) (xs : List TStroke) : List Int := prGo x xs xs.length 0 []
noncomputable def M_PrintedOf (x : TBasket) (xs : List TStroke) : List Int × Int := if StrokesOk x xs then (printedL x xs, 0) else ([], 1)
theorem prGo_len (x : TBasket) (xs : List TStroke) : ∀ (g i : Nat) (out : List Int), (prGo x xs g i out).length ≤ out.length + g
  | 0, i, out => Nat.le_refl _
  | g + 1, i, out => by
    unfold prGo
    refine Nat.le_trans (prGo_len x xs g (i + 1) _) ?_
    split <;> simp <;> omega
theorem pr_step (x : TBasket) (xs : List TStroke) (i : Nat) (h : i < xs.length) (out : List Int) :
    prGo x xs (xs.length - i) i out = prGo x xs (xs.length - (i + 1)) (i + 1) (if freeGo x xs xs[i] out true = true then out ++ [(i : Int)] else out) := by
  rw [show xs.length - i = (xs.length - (i + 1)) + 1 by omega]
  show prGo x xs _ (i + 1) (if freeGo x xs (xs.getD i (0, 0)) out true = true then out ++ [(i : Int)] else out) = _
  rw [List.getD_eq_getElem?_getD, List.getElem?_eq_getElem h]; rfl
theorem free_step (x : TBasket) (xs : List TStroke) (t : TStroke) (out : List Int) (k : Nat) (h : k < out.length) (q : Nat) (hq : q < xs.length) (he : out[k] = q) (b : Bool) :
    freeGo x xs t (out.drop k) b = freeGo x xs t (out.drop (k + 1)) (b && !decide (jamP x t xs[q])) := by
  rw [List.drop_eq_getElem_cons h]
  show freeGo x xs t (out.drop (k + 1)) (b && !decide (jamP x t (xs.getD (out[k]).toNat (0, 0)))) = _
  rw [he, Int.toNat_natCast, List.getD_eq_getElem?_getD, List.getElem?_eq_getElem hq]; rfl
def OutOk (n i : Nat) (out : List Int) : Prop := out.length ≤ i ∧ ∀ j (h : j < out.length), ∃ q : Nat, q < n ∧ out[j] = q
theorem OutOk.next {n i : Nat} {out : List Int} (h : OutOk n i out) (hi : i < n) : OutOk n (i + 1) (out ++ [(i : Int)]) := by
  refine ⟨by simp; exact h.1, fun j hj => ?_⟩
  rw [List.length_append] at hj
  simp only [List.length_cons, List.length_nil] at hj
  rcases Nat.lt_or_ge j out.length with hlt | hge
  · rw [List.getElem_append_left hlt]; exact h.2 j hlt
  · have e : j = out.length := by omega
    subst e
    exact ⟨i, hi, by simp⟩
theorem AtBasket.nextC {B : Nat} {w w' : World} {b : Nat} {x : TBasket} (h : AtBasket w b x) (hb : Below B w w') (hB : b < B) : AtBasket w' b x :=
  ⟨Nat.lt_of_lt_of_le h.1 hb.size, (hb.cell (p := ⟨b, 0, none⟩) hB).trans h.2.1, (hb.cell (p := ⟨b, 1, none⟩) hB).trans h.2.2.1, (hb.cell (p := ⟨b, 2, none⟩) hB).trans h.2.2.2.1, (hb.cell (p := ⟨b, 3, none⟩) hB).trans h.2.2.2.2.1, (hb.cell (p := ⟨b, 4, none⟩) hB).trans h.2.2.2.2.2⟩
set_option maxHeartbeats 6400000 in
set_option maxRecDepth 10000 in
theorem impl_PrintedOf_any (x : TBasket) (hx : okBasket x) (A : Option Addr) (c : Nat) (xs : List TStroke) (hxl : xs.length ≤ 1048576) (hk : ∀ n ∈ xs, KStroke n) (w : World) (rx : Row w A encStroke 2 xs) :
    Calls Try.prog 51 #[.agg #[.int .i64 x.1, .int .i64 x.2.1, .int .i64 x.2.2.1, .int .i64 x.2.2.2.1, .int .i64 x.2.2.2.2], .slice A xs.length c] w (RLE encInt 1 2 (M_PrintedOf x xs) w) := by
  obtain ⟨i0, hi0, hz, hsz, hby⟩ := info_parts info_Int64S
  obtain ⟨W0, hW0⟩ : ∃ W0, W0 = w.alloc (.cells #[.int .i64 x.1, .int .i64 x.2.1, .int .i64 x.2.2.1, .int .i64 x.2.2.2.1, .int .i64 x.2.2.2.2] 32) := ⟨_, rfl⟩
  have hB0 : Below w.heap.size w W0 := by rw [hW0]; exact bal (Below.refl _ _) _
  have k0 : AtBasket W0 w.heap.size x := by rw [hW0]; exact AtBasket.new w _ x
  have HW := Lib.hid hW0
  clear hW0
  by_cases h : StrokesOk x xs
  case neg =>
    have HM := Lib.hid (show M_PrintedOf x xs = ([], 1) by unfold M_PrintedOf; rw [if_neg h])
    go_enter Try.func51, Try.ntmps51
    go_wp2_with fail
    rw [← HW.out]
    refine (RBb.no (impl_ValidStrokes_any x hx _ _ xs hxl hk _ (rx.below hB0)) h).mono ?_; rintro e w1 ⟨rfl, hb1⟩
    go_wp2_with fail
    go_ret2
    exact RLE.no (fun _ => rfl) HM.out.symm (bnext hB0 hb1)
  obtain ⟨R, hR⟩ : ∃ R, R = printedL x xs := ⟨_, rfl⟩
  have HM := Lib.hid (show M_PrintedOf x xs = (R, 0) by unfold M_PrintedOf; rw [if_pos h, ← hR])
  have HR := Lib.hid hR
  have hRl : R.length ≤ xs.length := by have := prGo_len x xs xs.length 0 []; rw [hR]; unfold printedL; simp at this; exact this
  have HRl := Lib.hid hRl
  clear hR hRl
  have hb := h.1
  have h60 := h.2.1
  have hbars := h.1.2.1
  go_enter Try.func51, Try.ntmps51
  go_wp2_with fail
  rw [← HW.out]
  refine (RBb.yes (impl_ValidStrokes_any x hx _ _ xs hxl hk _ (rx.below hB0)) h).mono ?_; rintro e w1 ⟨rfl, hb1⟩
  have k1 := k0.next hb1
  have hB1 := bnext hB0 hb1
  clear k0
  have o1 := Own.lit0 (e := encInt) (s := 1) w1 (fun _ => rfl) w1.heap.size 2 (Nat.le_refl _)
  have hBl : Below w1.heap.size w1 (w1.alloc (.cells #[] 2)) := bal (Below.refl _ _) _
  go_wp2_with fail
  go_loopg [6, 19] xs.length (fun g vs is wr => ∃ (i : Nat) (out : List Int), i ≤ xs.length ∧ g = xs.length - i ∧ OutOk xs.length i out ∧ prGo x xs (xs.length - i) i out = R ∧ Own wr w1.heap.size 2 encInt 1 vs out ∧ Below w1.heap.size w1 wr ∧ is = .int .i64 i)
  case atStart => exact ⟨0, [], Nat.zero_le _, rfl, ⟨Nat.le_refl _, fun j h => absurd h (by simp)⟩, HR.out.symm, o1, hBl, rfl⟩
  case round =>
    obtain ⟨i, out, hii, hg, hout, hgo, hown, hbw, rfl⟩ := hrel
    have HG := Lib.hid hg
    have hol := hout.1
    have HOut := Lib.hid hout
    have k1r := k1.next hbw
    clear hg hout
    obtain ⟨A2, c2, rfl, ry, hob⟩ := hown.form
    have HOB := Lib.hid hob
    clear hob
    by_cases hlt : i < xs.length
    · rw [pr_step x xs i hlt] at hgo
      obtain ⟨F, hF⟩ : ∃ F, F = freeGo x xs xs[i] out true := ⟨_, rfl⟩
      rw [← hF] at hgo
      have HF := Lib.hid hF
      have HGo := Lib.hid hgo
      clear hgo hF
      obtain ⟨b, off, hA, hb', c0, c1⟩ := (rx.below (bnext hB1 hbw)).at2 (f := fun x : TStroke => .int .i64 x.1) (g := fun x : TStroke => .int .i64 x.2) (k := i) hlt
      subst hA
      have si := h.2.2 i hlt hlt
      have fi1 : 0 ≤ xs[i].1 ∧ xs[i].1 ≤ 60 := by have := si.1; omega
      have fi2 := si.2.1
      have i1 : (0 : Int) ≤ (i : Int) := by omega
      have i2 : (i : Int) < (xs.length : Int) := by omega
      clear si
      obtain ⟨W1, hW1⟩ : ∃ W1, W1 = wr.alloc (.cells #[.int .i64 xs[i].1, .int .i64 xs[i].2] 103) := ⟨_, rfl⟩
      have hbS : Below wr.heap.size wr W1 := by rw [hW1]; exact bal (Below.refl _ _) _
      obtain ⟨SBk, hSBk⟩ : ∃ n, n = wr.heap.size := ⟨_, rfl⟩
      have kS : AtStroke W1 SBk (xs[i].1, xs[i].2) := by rw [hW1, hSBk]; exact AtStroke.new _ _ _
      have HSB := Lib.hid hSBk
      clear hSBk
      have HW1 := Lib.hid hW1
      clear hW1
      go_wp2_with fail
      rw [← HW1.out, ← HSB.out]
      go_loopg [9, 26] out.length (fun g2 bs ks wi => ∃ (k : Nat) (bb : Bool), k ≤ out.length ∧ g2 = out.length - k ∧ freeGo x xs xs[i] (out.drop k) bb = F ∧ Below W1.heap.size W1 wi ∧ bs = .bool bb ∧ ks = .int .i64 k)
      case atStart => exact ⟨0, true, Nat.zero_le _, rfl, HF.out.symm, Below.refl _ _, rfl, rfl⟩
      case round =>
        obtain ⟨k, bb, hkk, hg2, hgo, hbi, rfl, rfl⟩ := hrel
        have HG2 := Lib.hid hg2
        have hbi2 := bnext hbS hbi
        have k2 := k1r.next hbi2
        clear hg2
        by_cases hlt2 : k < out.length
        · obtain ⟨q, hq, hqe⟩ := HOut.out.2 k hlt2
          rw [free_step x xs xs[i] out k hlt2 q hq hqe] at hgo
          obtain ⟨b3, off3, hA3, hb3, e0⟩ := (ry.below hbi2).at1 (f := fun x : Int => .int .i64 x) (k := k) hlt2
          obtain ⟨b4, off4, hA4, hb4, d0, d1⟩ := (rx.below (bnext hB1 (bnext hbw hbi2))).at2 (f := fun x : TStroke => .int .i64 x.1) (g := fun x : TStroke => .int .i64 x.2) (k := q) hq
          simp only [Option.some.injEq, Addr.mk.injEq, and_true] at hA4
          obtain ⟨rfl, rfl⟩ := hA4
          subst hA3
          rw [hqe] at e0
          have sq := h.2.2 q hq hq
          have fq1 : 0 ≤ xs[q].1 ∧ xs[q].1 ≤ 60 := by have := sq.1; omega
          have fq2 := sq.2.1
          have j1 : (0 : Int) ≤ (k : Int) := by omega
          have j2 : (k : Int) < (out.length : Int) := by omega
          have j3 : (0 : Int) ≤ (q : Int) := by omega
          have j4 : (q : Int) < (xs.length : Int) := by omega
          have c0' := (hbi2.cell (p := ⟨b, _, none⟩) hb').trans c0
          have c1' := (hbi2.cell (p := ⟨b, _, none⟩) hb').trans c1
          have HQ := Lib.hid hqe
          clear sq hqe
          have kS2 := kS.next hbi
          have hjd : decide (jamP x xs[i] xs[q]) = decide (jamP x (xs[i].1, xs[i].2) (xs[q].1, xs[q].2)) := rfl
          rw [hjd] at hgo
          obtain ⟨J, hJ⟩ : ∃ J, decide (jamP x (xs[i].1, xs[i].2) (xs[q].1, xs[q].2)) = J := ⟨_, rfl⟩
          rw [hJ] at hgo
          have HJ := Lib.hid hJ
          have HGo2 := Lib.hid hgo
          clear hgo hjd
          cases bb with
          | true =>
            go_wp2_with fail
            go_region_held3 (fun w' => (w'.cell? ⟨w.heap.size, 0, none⟩ = some (.int .i64 x.1) ∧ w'.cell? ⟨w.heap.size, 1, none⟩ = some (.int .i64 x.2.1) ∧ w'.cell? ⟨w.heap.size, 2, none⟩ = some (.int .i64 x.2.2.1) ∧ w'.cell? ⟨w.heap.size, 3, none⟩ = some (.int .i64 x.2.2.2.1) ∧ w'.cell? ⟨w.heap.size, 4, none⟩ = some (.int .i64 x.2.2.2.2)) ∧ (w'.cell? ⟨SBk, 0, none⟩ = some (.int .i64 xs[i].1) ∧ w'.cell? ⟨SBk, 1, none⟩ = some (.int .i64 xs[i].2)) ∧ w'.cell? ⟨b, off + q * 2, none⟩ = some (.int .i64 xs[q].1) ∧ w'.cell? ⟨b, off + q * 2 + 1, none⟩ = some (.int .i64 xs[q].2)) (first | exact ⟨k2.2, kS2.2, d0, d1⟩ | exact ⟨(k2.next (bundrew hb5)).2, (kS2.next (bundrew hb5)).2, (hb5.cell (p := ⟨b, _, none⟩) hb4).trans d0, (hb5.cell (p := ⟨b, _, none⟩) hb4).trans d1⟩) (first | (go_at_call 104; refine (jams_any x hb xs[i].1 xs[i].2 xs[q].1 xs[q].2 fi1 fq1 fi2 fq2 _).mono ?_; rintro e w5 ⟨rfl, hb5⟩))
            have hb6 := bundrew hb5
            go_wp2_with fail
            go_roundg (out.length - (k + 1))
            case measure => rw [HG2.out]; omega
            case rel => exact ⟨k + 1, _, by omega, rfl, HGo2.out, bnext hbi hb6, by simp, by go_num⟩
          | false =>
            go_wp2_with fail
            refine wp_region_held_drew (S := (fun w' => (w'.cell? ⟨w.heap.size, 0, none⟩ = some (.int .i64 x.1) ∧ w'.cell? ⟨w.heap.size, 1, none⟩ = some (.int .i64 x.2.1) ∧ w'.cell? ⟨w.heap.size, 2, none⟩ = some (.int .i64 x.2.2.1) ∧ w'.cell? ⟨w.heap.size, 3, none⟩ = some (.int .i64 x.2.2.2.1) ∧ w'.cell? ⟨w.heap.size, 4, none⟩ = some (.int .i64 x.2.2.2.2)) ∧ (w'.cell? ⟨SBk, 0, none⟩ = some (.int .i64 xs[i].1) ∧ w'.cell? ⟨SBk, 1, none⟩ = some (.int .i64 xs[i].2)) ∧ w'.cell? ⟨b, off + q * 2, none⟩ = some (.int .i64 xs[q].1) ∧ w'.cell? ⟨b, off + q * 2 + 1, none⟩ = some (.int .i64 xs[q].2))) (by kernel_rfl) ⟨k2.2, kS2.2, d0, d1⟩ (fun hHeld => ?_)
            refine wpAnyH_take (i := 0) (v := ?_) rfl (by kernel_rfl) (by kernel_rfl) (by kernel_rfl) (fun _ _ _ h => h) (Or.inl ⟨by rfl, ?_⟩) (by assumption) ?_
            rotate_left
            · (intro w hSw; (try dsimp only at hSw); go_simp; try with_reducible rfl)
            try simp only [Act.put, List.getElem_toArray, List.getElem_cons_zero, List.getElem_cons_succ, List.setIfInBounds_toArray, List.set_cons_zero, List.set_cons_succ]
            refine wpAnyH_take (i := 1) (v := ?_) rfl (by kernel_rfl) (by kernel_rfl) (by kernel_rfl) (fun _ _ _ h => h) (Or.inl ⟨by rfl, ?_⟩) (by assumption) ?_
            rotate_left
            · (intro w hSw; (try dsimp only at hSw); go_simp; try with_reducible rfl)
            try simp only [Act.put, List.getElem_toArray, List.getElem_cons_zero, List.getElem_cons_succ, List.setIfInBounds_toArray, List.set_cons_zero, List.set_cons_succ]
            refine wpAnyH_take (i := 2) (v := undef) rfl (by kernel_rfl) (by kernel_rfl) (by kernel_rfl) (fun _ _ _ h => h) (Or.inr ⟨by rfl, rfl⟩) (by assumption) ?_
            try simp only [Act.put, List.getElem_toArray, List.getElem_cons_zero, List.getElem_cons_succ, List.setIfInBounds_toArray, List.set_cons_zero, List.set_cons_succ]
            refine wpAnyH_take (i := 3) (v := undef) rfl (by kernel_rfl) (by kernel_rfl) (by kernel_rfl) (fun _ _ _ h => h) (Or.inr ⟨by rfl, rfl⟩) (by assumption) ?_
            try simp only [Act.put, List.getElem_toArray, List.getElem_cons_zero, List.getElem_cons_succ, List.setIfInBounds_toArray, List.set_cons_zero, List.set_cons_succ]
            refine wpAnyH_take (i := 4) (v := undef) rfl (by kernel_rfl) (by kernel_rfl) (by kernel_rfl) (fun _ _ _ h => h) (Or.inr ⟨by rfl, rfl⟩) (by assumption) ?_
            try simp only [Act.put, List.getElem_toArray, List.getElem_cons_zero, List.getElem_cons_succ, List.setIfInBounds_toArray, List.set_cons_zero, List.set_cons_succ]
            refine wpAnyH_take (i := 5) (v := undef) rfl (by kernel_rfl) (by kernel_rfl) (by kernel_rfl) (fun _ _ _ h => h) (Or.inr ⟨by rfl, rfl⟩) (by assumption) ?_
            try simp only [Act.put, List.getElem_toArray, List.getElem_cons_zero, List.getElem_cons_succ, List.setIfInBounds_toArray, List.set_cons_zero, List.set_cons_succ]
            refine wpAnyH_take (i := 6) (v := undef) rfl (by kernel_rfl) (by kernel_rfl) (by kernel_rfl) (fun _ _ _ h => h) (Or.inr ⟨by rfl, rfl⟩) (by assumption) ?_
            try simp only [Act.put, List.getElem_toArray, List.getElem_cons_zero, List.getElem_cons_succ, List.setIfInBounds_toArray, List.set_cons_zero, List.set_cons_succ]
            refine wpAnyH_take (i := 7) (v := undef) rfl (by kernel_rfl) (by kernel_rfl) (by kernel_rfl) (fun _ _ _ h => h) (Or.inr ⟨by rfl, rfl⟩) (by assumption) ?_
            try simp only [Act.put, List.getElem_toArray, List.getElem_cons_zero, List.getElem_cons_succ, List.setIfInBounds_toArray, List.set_cons_zero, List.set_cons_succ]
            refine wpAnyH_take (i := 8) (v := undef) rfl (by kernel_rfl) (by kernel_rfl) (by kernel_rfl) (fun _ _ _ h => h) (Or.inr ⟨by rfl, rfl⟩) (by assumption) ?_
            try simp only [Act.put, List.getElem_toArray, List.getElem_cons_zero, List.getElem_cons_succ, List.setIfInBounds_toArray, List.set_cons_zero, List.set_cons_succ]
            refine wpAnyH_take (i := 9) (v := undef) rfl (by kernel_rfl) (by kernel_rfl) (by kernel_rfl) (fun _ _ _ h => h) (Or.inr ⟨by rfl, rfl⟩) (by assumption) ?_
            try simp only [Act.put, List.getElem_toArray, List.getElem_cons_zero, List.getElem_cons_succ, List.setIfInBounds_toArray, List.set_cons_zero, List.set_cons_succ]
            refine wpAnyH_take (i := 10) (v := ?_) rfl (by kernel_rfl) (by kernel_rfl) (by kernel_rfl) (fun _ _ _ h => h) (Or.inl ⟨by rfl, ?_⟩) (by assumption) ?_
            rotate_left
            · (intro w hSw; (try dsimp only at hSw); go_simp; try with_reducible rfl)
            try simp only [Act.put, List.getElem_toArray, List.getElem_cons_zero, List.getElem_cons_succ, List.setIfInBounds_toArray, List.set_cons_zero, List.set_cons_succ]
            refine wpAnyH_take (i := 11) (v := ?_) rfl (by kernel_rfl) (by kernel_rfl) (by kernel_rfl) (fun _ _ _ h => h) (Or.inl ⟨by rfl, ?_⟩) (by assumption) ?_
            rotate_left
            · (intro w hSw; (try dsimp only at hSw); go_simp; try with_reducible rfl)
            try simp only [Act.put, List.getElem_toArray, List.getElem_cons_zero, List.getElem_cons_succ, List.setIfInBounds_toArray, List.set_cons_zero, List.set_cons_succ]
            refine wpAnyH_done (by kernel_rfl) ?_ _
            go_wp2_with fail
            go_roundg (out.length - (k + 1))
            case measure => rw [HG2.out]; omega
            case rel => exact ⟨k + 1, _, by omega, rfl, HGo2.out, bdr hbi, by simp, by go_num⟩
        · have hfin : bb = F := by
            rw [List.drop_of_length_le (by omega)] at hgo; exact hgo
          subst hfin
          have hk2 : ¬ (k < out.length) := hlt2
          clear hgo HF
          cases bb with
          | true =>
            have hGo := HGo.out
            rw [if_pos rfl] at hGo
            have HGo2 := Lib.hid hGo
            have o2 := (hown.below hbi2).below (bal (Below.refl _ _) (.cells #[.int .i64 i] 2))
            have hB2 := bal (bnext hbw hbi2) (.cells #[.int .i64 i] 2)
            clear hGo
            go_wp2_with (at_builtin; refine app_own rfl _ _ 29 rfl w1.heap.size 2 i0 _ 1 8 Try.underlying29 hi0 hz hsz hby rfl (by decide) _ out rfl o2 ⟨_, 0, none⟩ 1 (i : Int) rfl (cell_one_new _ _ _) (by simp [Value.oneCell']) (by unfold maxLen; omega) (by omega) hB2.size ?_; intro v2 w2 hown2 hg2)
            go_roundg (xs.length - (i + 1))
            case measure => rw [HG.out]; omega
            case rel =>
              have hb7 := below_own (B := w1.heap.size) o2 hg2 (Nat.le_refl _) hB2.size
              exact ⟨i + 1, _, by omega, rfl, HOut.out.next hlt, HGo2.out, hown2, hB2.trans hb7, by go_num⟩
          | false =>
            have hGo := HGo.out
            rw [if_neg (by simp)] at hGo
            have HGo2 := Lib.hid hGo
            clear hGo
            go_wp2_with fail
            go_roundg (xs.length - (i + 1))
            case measure => rw [HG.out]; omega
            case rel => exact ⟨i + 1, out, by omega, rfl, ⟨by omega, HOut.out.2⟩, HGo2.out, hown.below hbi2, bnext hbw hbi2, by go_num⟩
    · have hfin : out = R := by
        rw [show xs.length - i = 0 by omega] at hgo; exact hgo
      subst hfin
      clear hgo
      go_wp2_with fail
      go_ret2
      exact RLE.mk HM.out.symm (by omega) (hown.mono hB1.size) (bnext hB1 hbw)
set_option maxHeartbeats 6400000 in
set_option maxRecDepth 10000 in
theorem spec_PrintedOf_any (x : TBasket) (hx : okBasket x) (A : Option Addr) (c : Nat) (xs : List TStroke) (hxl : xs.length ≤ 1048576) (hk : ∀ n ∈ xs, KStroke n) (w : World) (rx : Row w A encStroke 2 xs) :
    Calls Try.prog 50 #[.agg #[.int .i64 x.1, .int .i64 x.2.1, .int .i64 x.2.2.1, .int .i64 x.2.2.2.1, .int .i64 x.2.2.2.2], .slice A xs.length c] w (RLE encInt 1 2 (M_PrintedOf x xs) w) := by
  obtain ⟨i0, hi0, hz, hsz, hby⟩ := info_parts info_Int64S
  obtain ⟨W0, hW0⟩ : ∃ W0, W0 = w.alloc (.cells #[.int .i64 x.1, .int .i64 x.2.1, .int .i64 x.2.2.1, .int .i64 x.2.2.2.1, .int .i64 x.2.2.2.2] 32) := ⟨_, rfl⟩
  have hB0 : Below w.heap.size w W0 := by rw [hW0]; exact bal (Below.refl _ _) _
  have k0 : AtBasket W0 w.heap.size x := by rw [hW0]; exact AtBasket.new w _ x
  have HW := Lib.hid hW0
  clear hW0
  by_cases h : StrokesOk x xs
  case neg =>
    have HM := Lib.hid (show M_PrintedOf x xs = ([], 1) by unfold M_PrintedOf; rw [if_neg h])
    go_enter Try.func50, Try.ntmps50
    go_wp2_with fail
    rw [← HW.out]
    refine (RBb.no (l03Strokes_any x hx _ _ xs hxl hk _ (rx.below hB0)) h).mono ?_; rintro e w1 ⟨rfl, hb1⟩
    go_wp2_with fail
    go_ret2
    exact RLE.no (fun _ => rfl) HM.out.symm (bnext hB0 hb1)
  obtain ⟨R, hR⟩ : ∃ R, R = printedL x xs := ⟨_, rfl⟩
  have HM := Lib.hid (show M_PrintedOf x xs = (R, 0) by unfold M_PrintedOf; rw [if_pos h, ← hR])
  have HR := Lib.hid hR
  have hRl : R.length ≤ xs.length := by have := prGo_len x xs xs.length 0 []; rw [hR]; unfold printedL; simp at this; exact this
  have HRl := Lib.hid hRl
  clear hR hRl
  have hb := h.1
  have h60 := h.2.1
  have hbars := h.1.2.1
  go_enter Try.func50, Try.ntmps50
  go_wp2_with fail
  rw [← HW.out]
  refine (RBb.yes (l03Strokes_any x hx _ _ xs hxl hk _ (rx.below hB0)) h).mono ?_; rintro e w1 ⟨rfl, hb1⟩
  have k1 := k0.next hb1
  have hB1 := bnext hB0 hb1
  clear k0
  have o1 := Own.lit0 (e := encInt) (s := 1) w1 (fun _ => rfl) w1.heap.size 2 (Nat.le_refl _)
  have hBl : Below w1.heap.size w1 (w1.alloc (.cells #[] 2)) := bal (Below.refl _ _) _
  go_wp2_with fail
  go_loopg [6, 7] xs.length (fun g vs is wr => ∃ (i : Nat) (out : List Int), i ≤ xs.length ∧ g = xs.length - i ∧ OutOk xs.length i out ∧ prGo x xs (xs.length - i) i out = R ∧ Own wr w1.heap.size 2 encInt 1 vs out ∧ Below w1.heap.size w1 wr ∧ is = .int .i64 i)
  case atStart => exact ⟨0, [], Nat.zero_le _, rfl, ⟨Nat.le_refl _, fun j h => absurd h (by simp)⟩, HR.out.symm, o1, hBl, rfl⟩
  case round =>
    obtain ⟨i, out, hii, hg, hout, hgo, hown, hbw, rfl⟩ := hrel
    have HG := Lib.hid hg
    have hol := hout.1
    have HOut := Lib.hid hout
    have k1r := k1.next hbw
    clear hg hout
    obtain ⟨A2, c2, rfl, ry, hob⟩ := hown.form
    have HOB := Lib.hid hob
    clear hob
    by_cases hlt : i < xs.length
    · rw [pr_step x xs i hlt] at hgo
      obtain ⟨F, hF⟩ : ∃ F, F = freeGo x xs xs[i] out true := ⟨_, rfl⟩
      rw [← hF] at hgo
      have HF := Lib.hid hF
      have HGo := Lib.hid hgo
      clear hgo hF
      obtain ⟨b, off, hA, hb', c0, c1⟩ := (rx.below (bnext hB1 hbw)).at2 (f := fun x : TStroke => .int .i64 x.1) (g := fun x : TStroke => .int .i64 x.2) (k := i) hlt
      subst hA
      have si := h.2.2 i hlt hlt
      have fi1 : 0 ≤ xs[i].1 ∧ xs[i].1 ≤ 60 := by have := si.1; omega
      have fi2 := si.2.1
      have i1 : (0 : Int) ≤ (i : Int) := by omega
      have i2 : (i : Int) < (xs.length : Int) := by omega
      clear si
      have hbS : Below wr.heap.size wr wr := Below.refl _ _
      go_wp2_with fail
      go_loopg [8, 9] out.length (fun g2 bs ks wi => ∃ (k : Nat) (bb : Bool), k ≤ out.length ∧ g2 = out.length - k ∧ freeGo x xs xs[i] (out.drop k) bb = F ∧ Below wr.heap.size wr wi ∧ bs = .bool bb ∧ ks = .int .i64 k)
      case atStart => exact ⟨0, true, Nat.zero_le _, rfl, HF.out.symm, Below.refl _ _, rfl, rfl⟩
      case round =>
        obtain ⟨k, bb, hkk, hg2, hgo, hbi, rfl, rfl⟩ := hrel
        have HG2 := Lib.hid hg2
        have hbi2 := bnext hbS hbi
        have k2 := k1r.next hbi2
        clear hg2
        by_cases hlt2 : k < out.length
        · obtain ⟨q, hq, hqe⟩ := HOut.out.2 k hlt2
          rw [free_step x xs xs[i] out k hlt2 q hq hqe] at hgo
          obtain ⟨b3, off3, hA3, hb3, e0⟩ := (ry.below hbi2).at1 (f := fun x : Int => .int .i64 x) (k := k) hlt2
          obtain ⟨b4, off4, hA4, hb4, d0, d1⟩ := (rx.below (bnext hB1 (bnext hbw hbi2))).at2 (f := fun x : TStroke => .int .i64 x.1) (g := fun x : TStroke => .int .i64 x.2) (k := q) hq
          simp only [Option.some.injEq, Addr.mk.injEq, and_true] at hA4
          obtain ⟨rfl, rfl⟩ := hA4
          subst hA3
          rw [hqe] at e0
          have sq := h.2.2 q hq hq
          have fq1 : 0 ≤ xs[q].1 ∧ xs[q].1 ≤ 60 := by have := sq.1; omega
          have fq2 := sq.2.1
          have j1 : (0 : Int) ≤ (k : Int) := by omega
          have j2 : (k : Int) < (out.length : Int) := by omega
          have j3 : (0 : Int) ≤ (q : Int) := by omega
          have j4 : (q : Int) < (xs.length : Int) := by omega
          have c0' := (hbi2.cell (p := ⟨b, _, none⟩) hb').trans c0
          have c1' := (hbi2.cell (p := ⟨b, _, none⟩) hb').trans c1
          have HQ := Lib.hid hqe
          clear sq hqe
          have hjd : decide (jamP x xs[i] xs[q]) = decide (jamP x (xs[q].1, xs[q].2) (xs[i].1, xs[i].2)) := by rw [decide_eq_decide]; exact jamP_comm x _ _
          rw [hjd] at hgo
          obtain ⟨J, hJ⟩ : ∃ J, decide (jamP x (xs[q].1, xs[q].2) (xs[i].1, xs[i].2)) = J := ⟨_, rfl⟩
          rw [hJ] at hgo
          have HJ := Lib.hid hJ
          have HGo2 := Lib.hid hgo
          clear hgo hjd
          cases bb with
          | true =>
            go_wp2_with fail
            go_region_held3 (fun w' => (w'.cell? ⟨w.heap.size, 0, none⟩ = some (.int .i64 x.1) ∧ w'.cell? ⟨w.heap.size, 1, none⟩ = some (.int .i64 x.2.1) ∧ w'.cell? ⟨w.heap.size, 2, none⟩ = some (.int .i64 x.2.2.1) ∧ w'.cell? ⟨w.heap.size, 3, none⟩ = some (.int .i64 x.2.2.2.1) ∧ w'.cell? ⟨w.heap.size, 4, none⟩ = some (.int .i64 x.2.2.2.2)) ∧ w'.cell? ⟨b3, off3 + k, none⟩ = some (.int .i64 q) ∧ w'.cell? ⟨b, off + q * 2, none⟩ = some (.int .i64 xs[q].1) ∧ w'.cell? ⟨b, off + q * 2 + 1, none⟩ = some (.int .i64 xs[q].2) ∧ w'.cell? ⟨b, off + i * 2, none⟩ = some (.int .i64 xs[i].1) ∧ w'.cell? ⟨b, off + i * 2 + 1, none⟩ = some (.int .i64 xs[i].2)) (first | exact ⟨k2.2, e0, d0, d1, c0', c1'⟩ | exact ⟨(k2.next (bundrew hb5)).2, (hb5.cell (p := ⟨b3, _, none⟩) hb3).trans e0, (hb5.cell (p := ⟨b, _, none⟩) hb4).trans d0, (hb5.cell (p := ⟨b, _, none⟩) hb4).trans d1, (hb5.cell (p := ⟨b, _, none⟩) hb4).trans c0', (hb5.cell (p := ⟨b, _, none⟩) hb4).trans c1'⟩) (first | (go_at_call 103; refine (l03Jam_any x hb xs[q].1 xs[q].2 xs[i].1 xs[i].2 fq1 fi1 fq2 fi2 _).mono ?_; rintro e w5 ⟨rfl, hb5⟩))
            have hb6 := bundrew hb5
            go_wp2_with fail
            go_roundg (out.length - (k + 1))
            case measure => rw [HG2.out]; omega
            case rel => exact ⟨k + 1, _, by omega, rfl, HGo2.out, bnext hbi hb6, by simp, by go_num⟩
          | false =>
            go_wp2_with fail
            refine wp_region_held_drew (S := (fun w' => (w'.cell? ⟨w.heap.size, 0, none⟩ = some (.int .i64 x.1) ∧ w'.cell? ⟨w.heap.size, 1, none⟩ = some (.int .i64 x.2.1) ∧ w'.cell? ⟨w.heap.size, 2, none⟩ = some (.int .i64 x.2.2.1) ∧ w'.cell? ⟨w.heap.size, 3, none⟩ = some (.int .i64 x.2.2.2.1) ∧ w'.cell? ⟨w.heap.size, 4, none⟩ = some (.int .i64 x.2.2.2.2)) ∧ w'.cell? ⟨b3, off3 + k, none⟩ = some (.int .i64 q) ∧ w'.cell? ⟨b, off + q * 2, none⟩ = some (.int .i64 xs[q].1) ∧ w'.cell? ⟨b, off + q * 2 + 1, none⟩ = some (.int .i64 xs[q].2) ∧ w'.cell? ⟨b, off + i * 2, none⟩ = some (.int .i64 xs[i].1) ∧ w'.cell? ⟨b, off + i * 2 + 1, none⟩ = some (.int .i64 xs[i].2))) (by kernel_rfl) ⟨k2.2, e0, d0, d1, c0', c1'⟩ (fun hHeld => ?_)
            refine wpAnyH_take (i := 0) (v := ?_) rfl (by kernel_rfl) (by kernel_rfl) (by kernel_rfl) (fun _ _ _ h => h) (Or.inl ⟨by rfl, ?_⟩) (by assumption) ?_
            rotate_left
            · (intro w hSw; (try dsimp only at hSw); go_simp; try with_reducible rfl)
            try simp only [Act.put, List.getElem_toArray, List.getElem_cons_zero, List.getElem_cons_succ, List.setIfInBounds_toArray, List.set_cons_zero, List.set_cons_succ]
            refine wpAnyH_take (i := 1) (v := ?_) rfl (by kernel_rfl) (by kernel_rfl) (by kernel_rfl) (fun _ _ _ h => h) (Or.inl ⟨by rfl, ?_⟩) (by assumption) ?_
            rotate_left
            · (intro w hSw; (try dsimp only at hSw); go_simp; try with_reducible rfl)
            try simp only [Act.put, List.getElem_toArray, List.getElem_cons_zero, List.getElem_cons_succ, List.setIfInBounds_toArray, List.set_cons_zero, List.set_cons_succ]
            refine wpAnyH_take (i := 2) (v := undef) rfl (by kernel_rfl) (by kernel_rfl) (by kernel_rfl) (fun _ _ _ h => h) (Or.inr ⟨by rfl, rfl⟩) (by assumption) ?_
            try simp only [Act.put, List.getElem_toArray, List.getElem_cons_zero, List.getElem_cons_succ, List.setIfInBounds_toArray, List.set_cons_zero, List.set_cons_succ]
            refine wpAnyH_take (i := 3) (v := undef) rfl (by kernel_rfl) (by kernel_rfl) (by kernel_rfl) (fun _ _ _ h => h) (Or.inr ⟨by rfl, rfl⟩) (by assumption) ?_
            try simp only [Act.put, List.getElem_toArray, List.getElem_cons_zero, List.getElem_cons_succ, List.setIfInBounds_toArray, List.set_cons_zero, List.set_cons_succ]
            refine wpAnyH_take (i := 4) (v := undef) rfl (by kernel_rfl) (by kernel_rfl) (by kernel_rfl) (fun _ _ _ h => h) (Or.inr ⟨by rfl, rfl⟩) (by assumption) ?_
            try simp only [Act.put, List.getElem_toArray, List.getElem_cons_zero, List.getElem_cons_succ, List.setIfInBounds_toArray, List.set_cons_zero, List.set_cons_succ]
            refine wpAnyH_take (i := 5) (v := undef) rfl (by kernel_rfl) (by kernel_rfl) (by kernel_rfl) (fun _ _ _ h => h) (Or.inr ⟨by rfl, rfl⟩) (by assumption) ?_
            try simp only [Act.put, List.getElem_toArray, List.getElem_cons_zero, List.getElem_cons_succ, List.setIfInBounds_toArray, List.set_cons_zero, List.set_cons_succ]
            refine wpAnyH_take (i := 6) (v := undef) rfl (by kernel_rfl) (by kernel_rfl) (by kernel_rfl) (fun _ _ _ h => h) (Or.inr ⟨by rfl, rfl⟩) (by assumption) ?_
            try simp only [Act.put, List.getElem_toArray, List.getElem_cons_zero, List.getElem_cons_succ, List.setIfInBounds_toArray, List.set_cons_zero, List.set_cons_succ]
            refine wpAnyH_take (i := 7) (v := undef) rfl (by kernel_rfl) (by kernel_rfl) (by kernel_rfl) (fun _ _ _ h => h) (Or.inr ⟨by rfl, rfl⟩) (by assumption) ?_
            try simp only [Act.put, List.getElem_toArray, List.getElem_cons_zero, List.getElem_cons_succ, List.setIfInBounds_toArray, List.set_cons_zero, List.set_cons_succ]
            refine wpAnyH_take (i := 8) (v := undef) rfl (by kernel_rfl) (by kernel_rfl) (by kernel_rfl) (fun _ _ _ h => h) (Or.inr ⟨by rfl, rfl⟩) (by assumption) ?_
            try simp only [Act.put, List.getElem_toArray, List.getElem_cons_zero, List.getElem_cons_succ, List.setIfInBounds_toArray, List.set_cons_zero, List.set_cons_succ]
            refine wpAnyH_take (i := 9) (v := undef) rfl (by kernel_rfl) (by kernel_rfl) (by kernel_rfl) (fun _ _ _ h => h) (Or.inr ⟨by rfl, rfl⟩) (by assumption) ?_
            try simp only [Act.put, List.getElem_toArray, List.getElem_cons_zero, List.getElem_cons_succ, List.setIfInBounds_toArray, List.set_cons_zero, List.set_cons_succ]
            refine wpAnyH_take (i := 10) (v := undef) rfl (by kernel_rfl) (by kernel_rfl) (by kernel_rfl) (fun _ _ _ h => h) (Or.inr ⟨by rfl, rfl⟩) (by assumption) ?_
            try simp only [Act.put, List.getElem_toArray, List.getElem_cons_zero, List.getElem_cons_succ, List.setIfInBounds_toArray, List.set_cons_zero, List.set_cons_succ]
            refine wpAnyH_take (i := 11) (v := undef) rfl (by kernel_rfl) (by kernel_rfl) (by kernel_rfl) (fun _ _ _ h => h) (Or.inr ⟨by rfl, rfl⟩) (by assumption) ?_
            try simp only [Act.put, List.getElem_toArray, List.getElem_cons_zero, List.getElem_cons_succ, List.setIfInBounds_toArray, List.set_cons_zero, List.set_cons_succ]
            refine wpAnyH_take (i := 12) (v := undef) rfl (by kernel_rfl) (by kernel_rfl) (by kernel_rfl) (fun _ _ _ h => h) (Or.inr ⟨by rfl, rfl⟩) (by assumption) ?_
            try simp only [Act.put, List.getElem_toArray, List.getElem_cons_zero, List.getElem_cons_succ, List.setIfInBounds_toArray, List.set_cons_zero, List.set_cons_succ]
            refine wpAnyH_take (i := 13) (v := undef) rfl (by kernel_rfl) (by kernel_rfl) (by kernel_rfl) (fun _ _ _ h => h) (Or.inr ⟨by rfl, rfl⟩) (by assumption) ?_
            try simp only [Act.put, List.getElem_toArray, List.getElem_cons_zero, List.getElem_cons_succ, List.setIfInBounds_toArray, List.set_cons_zero, List.set_cons_succ]
            refine wpAnyH_take (i := 14) (v := undef) rfl (by kernel_rfl) (by kernel_rfl) (by kernel_rfl) (fun _ _ _ h => h) (Or.inr ⟨by rfl, rfl⟩) (by assumption) ?_
            try simp only [Act.put, List.getElem_toArray, List.getElem_cons_zero, List.getElem_cons_succ, List.setIfInBounds_toArray, List.set_cons_zero, List.set_cons_succ]
            refine wpAnyH_take (i := 15) (v := undef) rfl (by kernel_rfl) (by kernel_rfl) (by kernel_rfl) (fun _ _ _ h => h) (Or.inr ⟨by rfl, rfl⟩) (by assumption) ?_
            try simp only [Act.put, List.getElem_toArray, List.getElem_cons_zero, List.getElem_cons_succ, List.setIfInBounds_toArray, List.set_cons_zero, List.set_cons_succ]
            refine wpAnyH_take (i := 16) (v := ?_) rfl (by kernel_rfl) (by kernel_rfl) (by kernel_rfl) (fun _ _ _ h => h) (Or.inl ⟨by rfl, ?_⟩) (by assumption) ?_
            rotate_left
            · (intro w hSw; (try dsimp only at hSw); go_simp; try with_reducible rfl)
            try simp only [Act.put, List.getElem_toArray, List.getElem_cons_zero, List.getElem_cons_succ, List.setIfInBounds_toArray, List.set_cons_zero, List.set_cons_succ]
            refine wpAnyH_take (i := 17) (v := ?_) rfl (by kernel_rfl) (by kernel_rfl) (by kernel_rfl) (fun _ _ _ h => h) (Or.inl ⟨by rfl, ?_⟩) (by assumption) ?_
            rotate_left
            · (intro w hSw; (try dsimp only at hSw); go_simp; try with_reducible rfl)
            try simp only [Act.put, List.getElem_toArray, List.getElem_cons_zero, List.getElem_cons_succ, List.setIfInBounds_toArray, List.set_cons_zero, List.set_cons_succ]
            refine wpAnyH_done (by kernel_rfl) ?_ _
            go_wp2_with fail
            go_roundg (out.length - (k + 1))
            case measure => rw [HG2.out]; omega
            case rel => exact ⟨k + 1, _, by omega, rfl, HGo2.out, bdr hbi, by simp, by go_num⟩
        · have hfin : bb = F := by
            rw [List.drop_of_length_le (by omega)] at hgo; exact hgo
          subst hfin
          have hk2 : ¬ (k < out.length) := hlt2
          clear hgo HF
          cases bb with
          | true =>
            have hGo := HGo.out
            rw [if_pos rfl] at hGo
            have HGo2 := Lib.hid hGo
            have o2 := (hown.below hbi2).below (bal (Below.refl _ _) (.cells #[.int .i64 i] 2))
            have hB2 := bal (bnext hbw hbi2) (.cells #[.int .i64 i] 2)
            clear hGo
            go_wp2_with (at_builtin; refine app_own rfl _ _ 29 rfl w1.heap.size 2 i0 _ 1 8 Try.underlying29 hi0 hz hsz hby rfl (by decide) _ out rfl o2 ⟨_, 0, none⟩ 1 (i : Int) rfl (cell_one_new _ _ _) (by simp [Value.oneCell']) (by unfold maxLen; omega) (by omega) hB2.size ?_; intro v2 w2 hown2 hg2)
            go_roundg (xs.length - (i + 1))
            case measure => rw [HG.out]; omega
            case rel =>
              have hb7 := below_own (B := w1.heap.size) o2 hg2 (Nat.le_refl _) hB2.size
              exact ⟨i + 1, _, by omega, rfl, HOut.out.next hlt, HGo2.out, hown2, hB2.trans hb7, by go_num⟩
          | false =>
            have hGo := HGo.out
            rw [if_neg (by simp)] at hGo
            have HGo2 := Lib.hid hGo
            clear hGo
            go_wp2_with fail
            go_roundg (xs.length - (i + 1))
            case measure => rw [HG.out]; omega
            case rel => exact ⟨i + 1, out, by omega, rfl, ⟨by omega, HOut.out.2⟩, HGo2.out, hown.below hbi2, bnext hbw hbi2, by go_num⟩
    · have hfin : out = R := by
        rw [show xs.length - i = 0 by omega] at hgo; exact hgo
      subst hfin
      clear hgo
      go_wp2_with fail
      go_ret2
      exact RLE.mk HM.out.symm (by omega) (hown.mono hB1.size) (bnext hB1 hbw)
end Go.Proofs.Ytbcomfobnhekpaa
