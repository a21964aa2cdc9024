/-
  FAir: the bars in the air: InTheAir, spec and impl. Printed by wip/gen_air.py.
-/
import Derived.Test.YteepcnfpdmmnhaaFPut
import Derived.Test.YteepcnfpdmmnhaaFStrokesS
import Derived.Test.YteepcnfpdmmnhaaArrLd
import Derived.Test.YteepcnfpdmmnhaaApps
import Derived.Deep.QuietTactic
import Derived.BigQuiet
namespace Go.Proofs.Yteepcnfpdmmnhaa
open Go.RowKit
set_option linter.unusedVariables false
attribute [local go_sem ↓] Go.wp_at_zero Go.wp_at_succ
set_option linter.unusedSimpArgs false
def upP (x : TBasket) (t : Int) (s : TStroke) : Bool := decide (s.2 ≤ t) && decide (t < s.2 + x.2.1 + x.2.2.1)
def airP (x : TBasket) (t : Int) (xs : List TStroke) (k j : Nat) : Bool := (xs.take k).any fun s => upP x t s && decide (s.1 = (j : Int))
theorem airP_succ (x : TBasket) (t : Int) (xs : List TStroke) (k j : Nat) (h : k < xs.length) : airP x t xs (k + 1) j = (airP x t xs k j || (upP x t xs[k] && decide (xs[k].1 = (j : Int)))) := by
  unfold airP
  rw [List.take_succ_eq_append_getElem h, List.any_append]
  simp
theorem airP_yes (x : TBasket) (t : Int) (xs : List TStroke) (k j p : Nat) (h : k < xs.length) (hp : xs[k].1 = (p : Int)) (hu : upP x t xs[k] = true) : airP x t xs (k + 1) j = (airP x t xs k j || p == j) := by
  rw [airP_succ x t xs k j h, hu, hp, Bool.true_and]
  congr 1
  rw [Bool.eq_iff_iff, decide_eq_true_iff, beq_iff_eq]
  omega
theorem airP_not (x : TBasket) (t : Int) (xs : List TStroke) (k j : Nat) (h : k < xs.length) (hu : upP x t xs[k] = false) : airP x t xs (k + 1) j = airP x t xs k j := by
  rw [airP_succ x t xs k j h, hu, Bool.false_and, Bool.or_false]
def airL (x : TBasket) (t : Int) (xs : List TStroke) : List Int := ascN (airP x t xs xs.length) 60
noncomputable def M_InTheAir (x : TBasket) (xs : List TStroke) (t : Int) : List Int × Int := if StrokesOk x xs then (if 0 ≤ t ∧ t ≤ 1000000 then (airL x t xs, 0) else ([], 2)) else ([], 1)
theorem own_sliceA {α : Type} {w : World} {base : Nat} {E : TypeId} {e : α → List Value} {s : Nat} {v : Value} {xs : List α} (h : Own w base E e s v xs) : ∃ A n c, v = .slice A n c := by
  obtain ⟨A, c, hv, _⟩ := h.form
  exact ⟨A, _, c, hv⟩
theorem stroke_nat {x : TBasket} {xs : List TStroke} (h : StrokesOk x xs) (k : Nat) (hk : k < xs.length) : ∃ p : Nat, xs[k].1 = (p : Int) ∧ p < 60 ∧ 0 ≤ xs[k].2 ∧ xs[k].2 ≤ 1000000 := by
  have h1 := h.2.2 k hk hk
  have h2 := h.1
  have h3 := h1.1
  have h4 := h1.2.1
  have h5 := h2.2.1
  exact ⟨xs[k].1.toNat, by omega, by omega, h4.1, h4.2⟩
theorem up_iff (x : TBasket) (t p q : Int) : upP x t (p, q) = true ↔ q ≤ t ∧ t ≤ q + x.2.1 + x.2.2.1 - 1 := by
  unfold upP
  rw [Bool.and_eq_true, decide_eq_true_iff, decide_eq_true_iff]
  constructor <;> rintro ⟨a, b⟩ <;> exact ⟨by simpa using a, by simp at b ⊢; omega⟩
set_option maxHeartbeats 3200000 in
set_option maxRecDepth 10000 in
theorem spec_InTheAir_any (x : TBasket) (hx : okBasket x) (A : Option Addr) (c : Nat) (xs : List TStroke) (hxl : xs.length ≤ 1048576) (hk : ∀ n ∈ xs, KStroke n) (t : Int) (ht : I64 t) (w : World) (rx : Row w A encStroke 2 xs) :
    Calls Try.prog 14 #[.agg #[.int .i64 x.1, .int .i64 x.2.1, .int .i64 x.2.2.1, .int .i64 x.2.2.2.1, .int .i64 x.2.2.2.2], .slice A xs.length c, .int .i64 t] w (RLE encInt 1 2 (M_InTheAir x xs t) w) := by
  obtain ⟨W0, hW0⟩ : ∃ W0, W0 = w.alloc (.cells #[.int .i64 x.1, .int .i64 x.2.1, .int .i64 x.2.2.1, .int .i64 x.2.2.2.1, .int .i64 x.2.2.2.2] 29) := ⟨_, rfl⟩
  have hB0 : Below w.heap.size w W0 := by rw [hW0]; exact bal (Below.refl _ _) _
  have k0 : AtBasket W0 w.heap.size x := by rw [hW0]; exact AtBasket.new w _ x
  have HW := Lib.hid hW0
  clear hW0
  obtain ⟨i0, hi0, hz, hsz, hby⟩ := info_parts info_Int64S
  by_cases h : StrokesOk x xs
  case neg =>
    have HM := Lib.hid (show M_InTheAir x xs t = ([], 1) by unfold M_InTheAir; rw [if_neg h])
    go_enter Try.func14, Try.ntmps14
    go_wp2_with fail
    rw [← HW.out]
    refine (RBb.no (l03Strokes_any x hx _ _ xs hxl hk _ (rx.below hB0)) h).mono ?_; rintro e w1 ⟨rfl, hb1⟩
    go_wp2_with fail
    go_ret2
    exact RLE.no (fun _ => rfl) HM.out.symm (bnext hB0 hb1)
  by_cases h2 : 0 ≤ t ∧ t ≤ 1000000
  case neg =>
    have HM := Lib.hid (show M_InTheAir x xs t = ([], 2) by unfold M_InTheAir; rw [if_pos h, if_neg h2])
    go_enter Try.func14, Try.ntmps14
    go_wp2_with fail
    rw [← HW.out]
    refine (RBb.yes (l03Strokes_any x hx _ _ xs hxl hk _ (rx.below hB0)) h).mono ?_; rintro e w1 ⟨rfl, hb1⟩
    go_wp2_with (go_at_call 68; refine (l00In_no t 0 1000000 h2 _).mono ?_; rintro e w4 ⟨rfl, rfl⟩)
    go_ret2
    exact RLE.no (fun _ => rfl) HM.out.symm (bnext hB0 hb1)
  have HM := Lib.hid (show M_InTheAir x xs t = (airL x t xs, 0) by unfold M_InTheAir; rw [if_pos h, if_pos h2])
  have HS := Lib.hid h
  have h60 := h.2.1
  have hbk := h.1
  have hl60 := ascN_len (airP x t xs xs.length) 60
  have HL := Lib.hid (show (airL x t xs).length ≤ 1048576 by unfold airL; omega)
  clear hl60
  go_enter Try.func14, Try.ntmps14
  go_wp2_with fail
  rw [← HW.out]
  refine (RBb.yes (l03Strokes_any x hx _ _ xs hxl hk _ (rx.below hB0)) h).mono ?_; rintro e w1 ⟨rfl, hb1⟩
  have k1 := k0.next hb1
  have hB1 := bnext hB0 hb1
  clear k0
  obtain ⟨NB, hNB⟩ : ∃ NB, NB = w1.heap.size := ⟨_, rfl⟩
  have hNBle : NB ≤ w1.heap.size := by omega
  have HNB := Lib.hid (show w.heap.size ≤ NB by have := hB1.size; omega)
  have o1 : Own (w1.alloc (.cells #[] 2)) NB 2 encInt 1 (.slice (some ⟨w1.heap.size, 0, none⟩) 0 0) [] := by rw [hNB]; exact Own.lit0 (e := encInt) (s := 1) w1 (fun _ => rfl) w1.heap.size 2 (Nat.le_refl _)
  have hBl : Below w1.heap.size w1 (w1.alloc (.cells #[] 2)) := bal (Below.refl _ _) _
  go_wp2_with (go_at_call 68; refine (l00In_yes t 0 1000000 h2 _).mono ?_; rintro e w4 ⟨rfl, rfl⟩)
  go_loopg [8, 9] xs.length (fun g vs is wr => ∃ i : Nat, i ≤ xs.length ∧ g = xs.length - i ∧ Own wr NB 2 encInt 1 vs (ascN (airP x t xs i) 60) ∧ Below w1.heap.size w1 wr ∧ is = .int .i64 i)
  case atStart => exact ⟨0, Nat.zero_le _, rfl, by rw [show ascN (airP x t xs 0) 60 = [] from (ascN_congr 60 (fun j _ => by unfold airP; simp)).trans (ascN_none 60)]; exact o1, hBl, rfl⟩
  case round =>
    obtain ⟨i, hi, hg, hown, hbw, rfl⟩ := hrel
    have HG := Lib.hid hg
    have k2 := k1.next hbw
    clear hg h o1 hBl k1
    by_cases hlt : i < xs.length
    · obtain ⟨p, hp, hp6, hq0, hq9⟩ := stroke_nat HS.out i hlt
      obtain ⟨b, off, hA, hb, c0, c1⟩ := (rx.below (bnext hB1 hbw)).at2 (f := fun x : TStroke => .int .i64 x.1) (g := fun x : TStroke => .int .i64 x.2) (k := i) hlt
      subst hA
      have i1 : (0 : Int) ≤ (i : Int) := by omega
      have i2 : (i : Int) < (xs.length : Int) := by omega
      obtain ⟨q, hq⟩ : ∃ q, xs[i].2 = q := ⟨_, rfl⟩
      have hpq : xs[i] = ((p : Int), q) := by rw [← hp, ← hq]
      rw [hp] at c0
      rw [hq] at c1 hq0 hq9
      obtain ⟨_, z0, z1, z2, z3, z4⟩ := k2
      have ww1 : IntKind.i64.wrap (q + x.2.1) = q + x.2.1 := IntWalk.i64_in _ (by omega)
      have ww2 : IntKind.i64.wrap (q + x.2.1 + x.2.2.1) = q + x.2.1 + x.2.2.1 := IntWalk.i64_in _ (by omega)
      have ww3 : IntKind.i64.wrap (q + x.2.1 + x.2.2.1 - 1) = q + x.2.1 + x.2.2.1 - 1 := IntWalk.i64_in _ (by omega)
      have hll := ascN_len (airP x t xs i) 60
      by_cases hu : upP x t ((p : Int), q) = true
      · have HN := Lib.hid (show insI (ascN (airP x t xs i) 60) (p : Int) = ascN (airP x t xs (i + 1)) 60 by rw [ascN_ins _ 60 p hp6]; exact ascN_congr 60 (fun j _ => (airP_yes x t xs i j p hlt hp (by rw [hpq]; exact hu)).symm))
        have L := Lib.hid (l00In_yes t q (q + x.2.1 + x.2.2.1 - 1) ((up_iff x t p q).1 hu))
        obtain ⟨A5, c5, hv5, r5, _⟩ := hown.form
        have PC := fun W (r : Row W A5 encInt 1 (ascN (airP x t xs i) 60)) => l00Put_any A5 c5 (ascN (airP x t xs i) 60) (by omega) (p : Int) W r
        rw [← hv5] at PC
        have HPC := Lib.hid PC
        have HV := Lib.hid hv5
        have hu0 := Lib.hid hu
        clear hp hq hpq hu PC hv5 hbk h2
        go_wp2_with (go_quiet ((go_at_call 68; exact quiet_left (L.out _))))
        go_wp2_with (go_at_call 69; refine (HPC.out _ (r5.below (bdrewN (Below.refl _ _) _))).mono ?_; rintro e w5 ⟨v5, rfl, ho5, hb5⟩; have HO5 := Lib.hid ho5; clear ho5)
        go_roundg (xs.length - (i + 1))
        case measure => rw [HG.out]; omega
        case rel => exact ⟨i + 1, by omega, rfl, by rw [← HN.out]; exact HO5.out.mono (Nat.le_trans hNBle hbw.size), bnext hbw (bundrewN hb5), by go_num⟩
      · have hu1 := Bool.eq_false_iff.2 hu
        have HN := Lib.hid (show ascN (airP x t xs (i + 1)) 60 = ascN (airP x t xs i) 60 from ascN_congr 60 (fun j _ => airP_not x t xs i j hlt (by rw [hpq]; exact hu1)))
        have L := Lib.hid (l00In_no t q (q + x.2.1 + x.2.2.1 - 1) (fun hh => hu ((up_iff x t p q).2 hh)))
        clear hp hq hpq hu hu1 hbk h2
        go_wp2_with (go_quiet ((go_at_call 68; exact quiet_left (L.out _))))
        go_wp2_with fail
        go_roundg (xs.length - (i + 1))
        case measure => rw [HG.out]; omega
        case rel => exact ⟨i + 1, by omega, rfl, by rw [HN.out]; exact hown.below (bdrewN (Below.refl _ _) _), bdrewN hbw _, by go_num⟩
    · have hil : i = xs.length := by omega
      subst hil
      go_wp2_with fail
      go_ret2
      exact RLE.mk HM.out.symm HL.out (hown.mono HNB.out) (bnext hB1 hbw)
end Go.Proofs.Yteepcnfpdmmnhaa
