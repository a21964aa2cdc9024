/-
  FFirstJam: the first two strokes that jam.
-/
import Derived.Test.YtemaheoebigkgaaFStrokesS
import Derived.Test.YtemaheoebigkgaaFJam
namespace Go.Proofs.Ytemaheoebigkgaa
open Go.RowKit
set_option linter.unusedVariables false
attribute [local go_sem ↓] Go.wp_at_zero Go.wp_at_succ
def firstIn (x : TBasket) (t : TStroke) (i : Nat) (els : Int × Int × Int) : List TStroke → Nat → Int × Int × Int
  | [], _ => els
  | y :: ys, k => if jamP x t y then ((i : Int), (k : Int), 0) else firstIn x t i els ys (k + 1)
def firstFrom (x : TBasket) (xs : List TStroke) : Nat → Nat → Int × Int × Int
  | 0, _ => (0, 0, 3)
  | g + 1, i => firstIn x (xs.getD i (0, 0)) i (firstFrom x xs g (i + 1)) (xs.take i) 0
noncomputable def M_FirstJam (x : TBasket) (xs : List TStroke) : Int × Int × Int := if StrokesOk x xs then firstFrom x xs xs.length 0 else (0, 0, 1)
theorem first_step (x : TBasket) (xs : List TStroke) (i : Nat) (h : i < xs.length) :
    firstFrom x xs (xs.length - i) i = firstIn x xs[i] i (firstFrom x xs (xs.length - (i + 1)) (i + 1)) (xs.take i) 0 := by
  have e : xs.length - i = (xs.length - (i + 1)) + 1 := by omega
  rw [e]
  show firstIn x (xs.getD i (0, 0)) i (firstFrom x xs _ (i + 1)) (xs.take i) 0 = _
  rw [List.getD_eq_getElem?_getD, List.getElem?_eq_getElem h]; rfl
theorem firstIn_step (x : TBasket) (t : TStroke) (xs : List TStroke) (els : Int × Int × Int) (i k : Nat) (hi : i < xs.length) (h : k < i) :
    firstIn x t i els ((xs.take i).drop k) k = if jamP x t (xs[k]'(by omega)) then ((i : Int), (k : Int), 0) else firstIn x t i els ((xs.take i).drop (k + 1)) (k + 1) := by
  have hl : k < (xs.take i).length := by simp; omega
  rw [List.drop_eq_getElem_cons hl]
  simp only [List.getElem_take, firstIn]
set_option maxHeartbeats 3200000 in
theorem impl_FirstJam_any (x : TBasket) (hx : okBasket x) (A : Option Addr) (c : Nat) (xs : List TStroke) (hxl : xs.length ≤ 1048576) (hk : ∀ n ∈ xs, KStroke n) (w : World) (rx : Row w A encStroke 2 xs) :
    Calls Try.prog 30 #[.agg #[.int .i64 x.1, .int .i64 x.2.1, .int .i64 x.2.2.1, .int .i64 x.2.2.2.1, .int .i64 x.2.2.2.2], .slice A xs.length c] w (RI3 (M_FirstJam x xs) w) := by
  obtain ⟨W0, hW0⟩ : ∃ W0, W0 = w.alloc (.cells #[.int .i64 x.1, .int .i64 x.2.1, .int .i64 x.2.2.1, .int .i64 x.2.2.2.1, .int .i64 x.2.2.2.2] 31) := ⟨_, rfl⟩
  have hB0 : Below w.heap.size w W0 := by rw [hW0]; exact bal (Below.refl _ _) _
  have k0 : AtBasket W0 w.heap.size x := by rw [hW0]; exact AtBasket.new w _ x
  have HW := Lib.hid hW0
  clear hW0
  by_cases h : StrokesOk x xs
  case neg =>
    have HM := Lib.hid (show M_FirstJam x xs = (0, 0, 1) by unfold M_FirstJam; rw [if_neg h])
    go_enter Try.func30, Try.ntmps30
    go_wp2_with fail
    rw [← HW.out]
    refine (RBb.no (impl_ValidStrokes_any x hx _ _ xs hxl hk _ (rx.below hB0)) h).mono ?_; rintro e w1 ⟨rfl, hb1⟩
    go_wp2_with fail
    go_ret3
    exact RI3.mk HM.out.symm (bnext hB0 hb1)
  obtain ⟨R, hR⟩ : ∃ R, R = firstFrom x xs xs.length 0 := ⟨_, rfl⟩
  have hM : M_FirstJam x xs = R := by unfold M_FirstJam; rw [if_pos h, ← hR]
  have HM := Lib.hid hM
  have HR := Lib.hid hR
  clear hM hR
  have hb := h.1
  have h60 := h.2.1
  have hbars := h.1.2.1
  go_enter Try.func30, Try.ntmps30
  go_wp2_with fail
  rw [← HW.out]
  refine (RBb.yes (impl_ValidStrokes_any x hx _ _ xs hxl hk _ (rx.below hB0)) h).mono ?_; rintro e w1 ⟨rfl, hb1⟩
  have k1 := k0.next hb1
  have hB1 := bnext hB0 hb1
  clear k0
  go_wp2_with fail
  go_loopg [15] xs.length (fun g is wr => ∃ (i : Nat), i ≤ xs.length ∧ g = xs.length - i ∧ firstFrom x xs (xs.length - i) i = R ∧ Below w1.heap.size w1 wr ∧ is = .int .i64 i)
  case atStart => exact ⟨0, Nat.zero_le _, rfl, HR.out.symm, Below.refl _ _, rfl⟩
  case round =>
    obtain ⟨i, hii, hg, hgo, hbw, rfl⟩ := hrel
    have HG := Lib.hid hg
    clear hg
    by_cases hlt : i < xs.length
    · rw [first_step x xs i hlt] at hgo
      have HF := Lib.hid hgo
      clear hgo
      go_wp2
      go_loopg [19] i (fun g2 ks wi => ∃ (k : Nat), k ≤ i ∧ g2 = i - k ∧ firstIn x xs[i] i (firstFrom x xs (xs.length - (i + 1)) (i + 1)) ((xs.take i).drop k) k = R ∧ Below w1.heap.size w1 wi ∧ ks = .int .i64 k)
      case atStart => exact ⟨0, Nat.zero_le _, rfl, HF.out, hbw, rfl⟩
      case round =>
        obtain ⟨k, hki, hg2, hgo, hbi, rfl⟩ := hrel
        have HG2 := Lib.hid hg2
        have k2 := k1.next hbi
        have hB2 := bnext hB1 hbi
        clear hg2 k1
        by_cases hlt2 : k < i
        · rw [firstIn_step x xs[i] xs _ i k hlt hlt2] at hgo
          have HF2 := Lib.hid hgo
          clear hgo
          obtain ⟨b, off, hA, hb', c0, c1⟩ := (rx.below hB2).at2 (f := fun x : TStroke => .int .i64 x.1) (g := fun x : TStroke => .int .i64 x.2) (k := i) hlt
          obtain ⟨b2, off2, hA2, hb2', d0, d1⟩ := (rx.below hB2).at2 (f := fun x : TStroke => .int .i64 x.1) (g := fun x : TStroke => .int .i64 x.2) (k := k) (by omega)
          rw [hA] at hA2
          simp only [Option.some.injEq, Addr.mk.injEq, and_true] at hA2
          obtain ⟨rfl, rfl⟩ := hA2
          subst hA
          have si := h.2.2 i hlt hlt
          have sk := h.2.2 k (by omega) (by omega)
          have fi1 : 0 ≤ xs[i].1 ∧ xs[i].1 ≤ 60 := by have := si.1; omega
          have fi2 := si.2.1
          have fk1 : 0 ≤ (xs[k]'(by omega)).1 ∧ (xs[k]'(by omega)).1 ≤ 60 := by have := sk.1; omega
          have fk2 := sk.2.1
          have i1 : (0 : Int) ≤ (i : Int) := by omega
          have i2 : (i : Int) < (xs.length : Int) := by omega
          have i3 : (0 : Int) ≤ (k : Int) := by omega
          have i4 : (k : Int) < (xs.length : Int) := by omega
          have i5 : (k : Int) < (i : Int) := by omega
          clear si sk
          by_cases hj : jamP x (xs[i].1, xs[i].2) ((xs[k]'(by omega)).1, (xs[k]'(by omega)).2)
          · have hd : decide (jamP x (xs[i].1, xs[i].2) ((xs[k]'(by omega)).1, (xs[k]'(by omega)).2)) = true := by exact decide_eq_true hj
            have hF := HF2.out
            rw [if_pos (hj)] at hF
            have HF3 := Lib.hid hF
            clear hF
            have HJ := Lib.hid hj
            clear hj
            go_wp2
            go_region_held3 (fun w' => (w'.cell? ⟨w.heap.size, 0, none⟩ = some (.int .i64 x.1) ∧ w'.cell? ⟨w.heap.size, 1, none⟩ = some (.int .i64 x.2.1) ∧ w'.cell? ⟨w.heap.size, 2, none⟩ = some (.int .i64 x.2.2.1) ∧ w'.cell? ⟨w.heap.size, 3, none⟩ = some (.int .i64 x.2.2.2.1) ∧ w'.cell? ⟨w.heap.size, 4, none⟩ = some (.int .i64 x.2.2.2.2)) ∧ w'.cell? ⟨b, off + i * 2, none⟩ = some (.int .i64 xs[i].1) ∧ w'.cell? ⟨b, off + i * 2 + 1, none⟩ = some (.int .i64 xs[i].2) ∧ w'.cell? ⟨b, off + k * 2, none⟩ = some (.int .i64 (xs[k]'(by omega)).1) ∧ w'.cell? ⟨b, off + k * 2 + 1, none⟩ = some (.int .i64 (xs[k]'(by omega)).2)) (first | exact ⟨k2.2, c0, c1, d0, d1⟩ | exact ⟨(k2.next (bundrew hb4)).2, (hb4.cell (p := ⟨b, _, none⟩) hb').trans c0, (hb4.cell (p := ⟨b, _, none⟩) hb').trans c1, (hb4.cell (p := ⟨b, _, none⟩) hb').trans d0, (hb4.cell (p := ⟨b, _, none⟩) hb').trans d1⟩) (first | (go_at_call 74; refine (jams_any x hb _ _ _ _ fi1 fk1 fi2 fk2 _).mono ?_; rintro e w4 ⟨rfl, hb4⟩))
            have hb5 := bundrew hb4
            go_wp2
            go_ret3
            exact RI3.mk (by rw [HM.out, HF3.out]) (bnext hB1 (bnext hbi hb5))
          · have hd : decide (jamP x (xs[i].1, xs[i].2) ((xs[k]'(by omega)).1, (xs[k]'(by omega)).2)) = false := by exact decide_eq_false hj
            have hF := HF2.out
            rw [if_neg hj] at hF
            have HF3 := Lib.hid hF
            clear hF
            have HJ := Lib.hid hj
            clear hj
            go_wp2
            go_region_held3 (fun w' => (w'.cell? ⟨w.heap.size, 0, none⟩ = some (.int .i64 x.1) ∧ w'.cell? ⟨w.heap.size, 1, none⟩ = some (.int .i64 x.2.1) ∧ w'.cell? ⟨w.heap.size, 2, none⟩ = some (.int .i64 x.2.2.1) ∧ w'.cell? ⟨w.heap.size, 3, none⟩ = some (.int .i64 x.2.2.2.1) ∧ w'.cell? ⟨w.heap.size, 4, none⟩ = some (.int .i64 x.2.2.2.2)) ∧ w'.cell? ⟨b, off + i * 2, none⟩ = some (.int .i64 xs[i].1) ∧ w'.cell? ⟨b, off + i * 2 + 1, none⟩ = some (.int .i64 xs[i].2) ∧ w'.cell? ⟨b, off + k * 2, none⟩ = some (.int .i64 (xs[k]'(by omega)).1) ∧ w'.cell? ⟨b, off + k * 2 + 1, none⟩ = some (.int .i64 (xs[k]'(by omega)).2)) (first | exact ⟨k2.2, c0, c1, d0, d1⟩ | exact ⟨(k2.next (bundrew hb4)).2, (hb4.cell (p := ⟨b, _, none⟩) hb').trans c0, (hb4.cell (p := ⟨b, _, none⟩) hb').trans c1, (hb4.cell (p := ⟨b, _, none⟩) hb').trans d0, (hb4.cell (p := ⟨b, _, none⟩) hb').trans d1⟩) (first | (go_at_call 74; refine (jams_any x hb _ _ _ _ fi1 fk1 fi2 fk2 _).mono ?_; rintro e w4 ⟨rfl, hb4⟩))
            have hb5 := bundrew hb4
            go_wp2
            go_roundg (i - (k + 1))
            case measure => rw [HG2.out]; omega
            case rel => exact ⟨k + 1, by omega, rfl, HF3.out, bnext hbi hb5, by go_num⟩
        · have hgo2 : firstFrom x xs (xs.length - (i + 1)) (i + 1) = R := by rw [← hgo, List.drop_of_length_le (by simp; omega)]; rfl
          have HF2 := Lib.hid hgo2
          clear hgo hgo2
          go_wp2
          go_roundg (xs.length - (i + 1))
          case measure => rw [HG.out]; omega
          case rel => exact ⟨i + 1, by omega, rfl, HF2.out, hbi, by go_num⟩
    · have hfin : (0, 0, 3) = R := by
        have e : xs.length - i = 0 := by omega
        rw [e] at hgo; exact hgo
      have HF := Lib.hid hfin
      clear hfin hgo
      go_wp2
      go_ret3
      exact RI3.mk (by rw [HM.out, HF.out]) (bnext hB1 hbw)
set_option maxHeartbeats 3200000 in
theorem spec_FirstJam_any (x : TBasket) (hx : okBasket x) (A : Option Addr) (c : Nat) (xs : List TStroke) (hxl : xs.length ≤ 1048576) (hk : ∀ n ∈ xs, KStroke n) (w : World) (rx : Row w A encStroke 2 xs) :
    Calls Try.prog 28 #[.agg #[.int .i64 x.1, .int .i64 x.2.1, .int .i64 x.2.2.1, .int .i64 x.2.2.2.1, .int .i64 x.2.2.2.2], .slice A xs.length c] w (RI3 (M_FirstJam x xs) w) := by
  obtain ⟨W0, hW0⟩ : ∃ W0, W0 = w.alloc (.cells #[.int .i64 x.1, .int .i64 x.2.1, .int .i64 x.2.2.1, .int .i64 x.2.2.2.1, .int .i64 x.2.2.2.2] 31) := ⟨_, rfl⟩
  have hB0 : Below w.heap.size w W0 := by rw [hW0]; exact bal (Below.refl _ _) _
  have k0 : AtBasket W0 w.heap.size x := by rw [hW0]; exact AtBasket.new w _ x
  have HW := Lib.hid hW0
  clear hW0
  by_cases h : StrokesOk x xs
  case neg =>
    have HM := Lib.hid (show M_FirstJam x xs = (0, 0, 1) by unfold M_FirstJam; rw [if_neg h])
    go_enter Try.func28, Try.ntmps28
    go_wp2_with fail
    rw [← HW.out]
    refine (RBb.no (l03Strokes_any x hx _ _ xs hxl hk _ (rx.below hB0)) h).mono ?_; rintro e w1 ⟨rfl, hb1⟩
    go_wp2_with fail
    go_ret3
    exact RI3.mk HM.out.symm (bnext hB0 hb1)
  obtain ⟨R, hR⟩ : ∃ R, R = firstFrom x xs xs.length 0 := ⟨_, rfl⟩
  have hM : M_FirstJam x xs = R := by unfold M_FirstJam; rw [if_pos h, ← hR]
  have HM := Lib.hid hM
  have HR := Lib.hid hR
  clear hM hR
  have hb := h.1
  have h60 := h.2.1
  have hbars := h.1.2.1
  go_enter Try.func28, Try.ntmps28
  go_wp2_with fail
  rw [← HW.out]
  refine (RBb.yes (l03Strokes_any x hx _ _ xs hxl hk _ (rx.below hB0)) h).mono ?_; rintro e w1 ⟨rfl, hb1⟩
  have k1 := k0.next hb1
  have hB1 := bnext hB0 hb1
  clear k0
  go_wp2_with fail
  go_loopg [7] xs.length (fun g is wr => ∃ (i : Nat), i ≤ xs.length ∧ g = xs.length - i ∧ firstFrom x xs (xs.length - i) i = R ∧ Below w1.heap.size w1 wr ∧ is = .int .i64 i)
  case atStart => exact ⟨0, Nat.zero_le _, rfl, HR.out.symm, Below.refl _ _, rfl⟩
  case round =>
    obtain ⟨i, hii, hg, hgo, hbw, rfl⟩ := hrel
    have HG := Lib.hid hg
    clear hg
    by_cases hlt : i < xs.length
    · rw [first_step x xs i hlt] at hgo
      have HF := Lib.hid hgo
      clear hgo
      go_wp2
      go_loopg [8] i (fun g2 ks wi => ∃ (k : Nat), k ≤ i ∧ g2 = i - k ∧ firstIn x xs[i] i (firstFrom x xs (xs.length - (i + 1)) (i + 1)) ((xs.take i).drop k) k = R ∧ Below w1.heap.size w1 wi ∧ ks = .int .i64 k)
      case atStart => exact ⟨0, Nat.zero_le _, rfl, HF.out, hbw, rfl⟩
      case round =>
        obtain ⟨k, hki, hg2, hgo, hbi, rfl⟩ := hrel
        have HG2 := Lib.hid hg2
        have k2 := k1.next hbi
        have hB2 := bnext hB1 hbi
        clear hg2 k1
        by_cases hlt2 : k < i
        · rw [firstIn_step x xs[i] xs _ i k hlt hlt2] at hgo
          have HF2 := Lib.hid hgo
          clear hgo
          obtain ⟨b, off, hA, hb', c0, c1⟩ := (rx.below hB2).at2 (f := fun x : TStroke => .int .i64 x.1) (g := fun x : TStroke => .int .i64 x.2) (k := i) hlt
          obtain ⟨b2, off2, hA2, hb2', d0, d1⟩ := (rx.below hB2).at2 (f := fun x : TStroke => .int .i64 x.1) (g := fun x : TStroke => .int .i64 x.2) (k := k) (by omega)
          rw [hA] at hA2
          simp only [Option.some.injEq, Addr.mk.injEq, and_true] at hA2
          obtain ⟨rfl, rfl⟩ := hA2
          subst hA
          have si := h.2.2 i hlt hlt
          have sk := h.2.2 k (by omega) (by omega)
          have fi1 : 0 ≤ xs[i].1 ∧ xs[i].1 ≤ 60 := by have := si.1; omega
          have fi2 := si.2.1
          have fk1 : 0 ≤ (xs[k]'(by omega)).1 ∧ (xs[k]'(by omega)).1 ≤ 60 := by have := sk.1; omega
          have fk2 := sk.2.1
          have i1 : (0 : Int) ≤ (i : Int) := by omega
          have i2 : (i : Int) < (xs.length : Int) := by omega
          have i3 : (0 : Int) ≤ (k : Int) := by omega
          have i4 : (k : Int) < (xs.length : Int) := by omega
          have i5 : (k : Int) < (i : Int) := by omega
          clear si sk
          by_cases hj : jamP x ((xs[k]'(by omega)).1, (xs[k]'(by omega)).2) (xs[i].1, xs[i].2)
          · have hd : decide (jamP x ((xs[k]'(by omega)).1, (xs[k]'(by omega)).2) (xs[i].1, xs[i].2)) = true := by exact decide_eq_true hj
            have hF := HF2.out
            rw [if_pos ((jamP_comm x _ _).1 hj)] at hF
            have HF3 := Lib.hid hF
            clear hF
            have HJ := Lib.hid hj
            clear hj
            go_wp2
            go_region_held3 (fun w' => (w'.cell? ⟨w.heap.size, 0, none⟩ = some (.int .i64 x.1) ∧ w'.cell? ⟨w.heap.size, 1, none⟩ = some (.int .i64 x.2.1) ∧ w'.cell? ⟨w.heap.size, 2, none⟩ = some (.int .i64 x.2.2.1) ∧ w'.cell? ⟨w.heap.size, 3, none⟩ = some (.int .i64 x.2.2.2.1) ∧ w'.cell? ⟨w.heap.size, 4, none⟩ = some (.int .i64 x.2.2.2.2)) ∧ w'.cell? ⟨b, off + i * 2, none⟩ = some (.int .i64 xs[i].1) ∧ w'.cell? ⟨b, off + i * 2 + 1, none⟩ = some (.int .i64 xs[i].2) ∧ w'.cell? ⟨b, off + k * 2, none⟩ = some (.int .i64 (xs[k]'(by omega)).1) ∧ w'.cell? ⟨b, off + k * 2 + 1, none⟩ = some (.int .i64 (xs[k]'(by omega)).2)) (first | exact ⟨k2.2, c0, c1, d0, d1⟩ | exact ⟨(k2.next (bundrew hb4)).2, (hb4.cell (p := ⟨b, _, none⟩) hb').trans c0, (hb4.cell (p := ⟨b, _, none⟩) hb').trans c1, (hb4.cell (p := ⟨b, _, none⟩) hb').trans d0, (hb4.cell (p := ⟨b, _, none⟩) hb').trans d1⟩) (first | (go_at_call 71; refine (l03Jam_any x hb _ _ _ _ fk1 fi1 fk2 fi2 _).mono ?_; rintro e w4 ⟨rfl, hb4⟩))
            have hb5 := bundrew hb4
            go_wp2
            go_ret3
            exact RI3.mk (by rw [HM.out, HF3.out]) (bnext hB1 (bnext hbi hb5))
          · have hd : decide (jamP x ((xs[k]'(by omega)).1, (xs[k]'(by omega)).2) (xs[i].1, xs[i].2)) = false := by exact decide_eq_false hj
            have hF := HF2.out
            rw [if_neg (fun q => hj ((jamP_comm x _ _).1 q))] at hF
            have HF3 := Lib.hid hF
            clear hF
            have HJ := Lib.hid hj
            clear hj
            go_wp2
            go_region_held3 (fun w' => (w'.cell? ⟨w.heap.size, 0, none⟩ = some (.int .i64 x.1) ∧ w'.cell? ⟨w.heap.size, 1, none⟩ = some (.int .i64 x.2.1) ∧ w'.cell? ⟨w.heap.size, 2, none⟩ = some (.int .i64 x.2.2.1) ∧ w'.cell? ⟨w.heap.size, 3, none⟩ = some (.int .i64 x.2.2.2.1) ∧ w'.cell? ⟨w.heap.size, 4, none⟩ = some (.int .i64 x.2.2.2.2)) ∧ w'.cell? ⟨b, off + i * 2, none⟩ = some (.int .i64 xs[i].1) ∧ w'.cell? ⟨b, off + i * 2 + 1, none⟩ = some (.int .i64 xs[i].2) ∧ w'.cell? ⟨b, off + k * 2, none⟩ = some (.int .i64 (xs[k]'(by omega)).1) ∧ w'.cell? ⟨b, off + k * 2 + 1, none⟩ = some (.int .i64 (xs[k]'(by omega)).2)) (first | exact ⟨k2.2, c0, c1, d0, d1⟩ | exact ⟨(k2.next (bundrew hb4)).2, (hb4.cell (p := ⟨b, _, none⟩) hb').trans c0, (hb4.cell (p := ⟨b, _, none⟩) hb').trans c1, (hb4.cell (p := ⟨b, _, none⟩) hb').trans d0, (hb4.cell (p := ⟨b, _, none⟩) hb').trans d1⟩) (first | (go_at_call 71; refine (l03Jam_any x hb _ _ _ _ fk1 fi1 fk2 fi2 _).mono ?_; rintro e w4 ⟨rfl, hb4⟩))
            have hb5 := bundrew hb4
            go_wp2
            go_roundg (i - (k + 1))
            case measure => rw [HG2.out]; omega
            case rel => exact ⟨k + 1, by omega, rfl, HF3.out, bnext hbi hb5, by go_num⟩
        · have hgo2 : firstFrom x xs (xs.length - (i + 1)) (i + 1) = R := by rw [← hgo, List.drop_of_length_le (by simp; omega)]; rfl
          have HF2 := Lib.hid hgo2
          clear hgo hgo2
          go_wp2
          go_roundg (xs.length - (i + 1))
          case measure => rw [HG.out]; omega
          case rel => exact ⟨i + 1, by omega, rfl, HF2.out, hbi, by go_num⟩
    · have hfin : (0, 0, 3) = R := by
        have e : xs.length - i = 0 := by omega
        rw [e] at hgo; exact hgo
      have HF := Lib.hid hfin
      clear hfin hgo
      go_wp2
      go_ret3
      exact RI3.mk (by rw [HM.out, HF.out]) (bnext hB1 hbw)
end Go.Proofs.Ytemaheoebigkgaa
