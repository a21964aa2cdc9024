/-
  FActText: the text form of acts: spec.ActText, impl.ActText.
-/
import Derived.Test.YtnliobhijmljpaaFActs
import Derived.Test.YtnliobhijmljpaaMore
namespace Go.Proofs.Ytnliobhijmljpaa
open Go.RowKit
set_option linter.unusedVariables false
attribute [local go_sem ↓] Go.wp_at_zero Go.wp_at_succ
def wordA (k : Int) : ByteArray := if k = 1 then ⟨#[115, 112, 97, 99, 101]⟩ else if k = 2 then ⟨#[98, 97, 99, 107]⟩ else if k = 3 then ⟨#[104, 97, 108, 102]⟩ else if k = 4 then ⟨#[102, 114, 101, 101]⟩ else ⟨#[114, 101, 116, 117, 114, 110]⟩
def actW (a : TAct) : ByteArray := if a.1 = 0 then ⟨#[39]⟩ ++ a.2 else wordA a.1
def textGo : List TAct → Nat → ByteArray → ByteArray
  | [], _, s => s
  | a :: ls, i, s => textGo ls (i + 1) ((if 0 < i then s ++ ⟨#[32]⟩ else s) ++ actW a)
noncomputable instance decActsOk (xs : List TAct) : Decidable (ActsOk xs) := Classical.propDecidable _
noncomputable def M_ActText (xs : List TAct) : ByteArray := if ActsOk xs then textGo xs 0 ⟨#[]⟩ else ⟨#[]⟩
theorem text_step (xs : List TAct) (i : Nat) (h : i < xs.length) (s : ByteArray) : textGo (xs.drop i) i s = textGo (xs.drop (i + 1)) (i + 1) ((if 0 < i then s ++ ⟨#[32]⟩ else s) ++ actW xs[i]) := by
  rw [List.drop_eq_getElem_cons h]; rfl
theorem wordA_size (k : Int) : (wordA k).size ≤ 6 := by
  unfold wordA
  split <;> (try split) <;> (try split) <;> (try split) <;> decide
set_option maxHeartbeats 6400000 in
set_option maxRecDepth 10000 in
theorem impl_ActText_any (A : Option Addr) (c : Nat) (xs : List TAct) (hx : xs.length ≤ 1048576) (hk : ∀ x ∈ xs, KAct x) (w : World) (rx : Row w A encAct 2 xs) :
    Calls Try.prog 16 #[.slice A xs.length c] w (RS1 (M_ActText xs) w) := by
  by_cases h : ActsOk xs
  case neg =>
    have HM := Lib.hid (show M_ActText xs = ⟨#[]⟩ by unfold M_ActText; rw [if_neg h])
    go_enter Try.func16, Try.ntmps16
    go_wp2_with (go_at_call 41; refine (RBb.no (impl_ValidActs_any _ _ xs hx hk _ rx) h).mono ?_; rintro e w1 ⟨rfl, hb1⟩)
    go_ret
    exact RS1.mk HM.out.symm hb1
  obtain ⟨R, hR⟩ : ∃ R, R = textGo xs 0 ⟨#[]⟩ := ⟨_, rfl⟩
  have HM := Lib.hid (show M_ActText xs = R by unfold M_ActText; rw [if_pos h, hR])
  have HR := Lib.hid hR
  have h200 := h.1
  have HA := Lib.hid h.2
  clear hR
  go_enter Try.func16, Try.ntmps16
  go_wp2_with (go_at_call 41; refine (RBb.yes (impl_ValidActs_any _ _ xs hx hk _ rx) h).mono ?_; rintro e w1 ⟨rfl, hb1⟩)
  obtain ⟨W2, hW2⟩ : ∃ W2, W2 = w1.alloc (.cells #[.string { data := #[] }, .string { data := #[115, 112, 97, 99, 101] }, .string { data := #[98, 97, 99, 107] }, .string { data := #[104, 97, 108, 102] }, .string { data := #[102, 114, 101, 101] }, .string { data := #[114, 101, 116, 117, 114, 110] }] 76) := ⟨_, rfl⟩
  have hb2 : Below w.heap.size w W2 := by rw [hW2]; exact bal hb1 _
  obtain ⟨wb, hwb⟩ : ∃ n, n = w1.heap.size := ⟨_, rfl⟩
  have hwl : wb < W2.heap.size := by rw [hW2, hwb]; simp
  have wc1 : W2.cell? ⟨wb, 1, none⟩ = some (.string { data := #[115, 112, 97, 99, 101] }) := by rw [hW2, hwb]; simp [go_sem]
  have wc2 : W2.cell? ⟨wb, 2, none⟩ = some (.string { data := #[98, 97, 99, 107] }) := by rw [hW2, hwb]; simp [go_sem]
  have wc3 : W2.cell? ⟨wb, 3, none⟩ = some (.string { data := #[104, 97, 108, 102] }) := by rw [hW2, hwb]; simp [go_sem]
  have wc4 : W2.cell? ⟨wb, 4, none⟩ = some (.string { data := #[102, 114, 101, 101] }) := by rw [hW2, hwb]; simp [go_sem]
  have wc5 : W2.cell? ⟨wb, 5, none⟩ = some (.string { data := #[114, 101, 116, 117, 114, 110] }) := by rw [hW2, hwb]; simp [go_sem]
  rw [← hW2, ← hwb]
  clear hW2 hwb
  go_loopg [4, 13] xs.length (fun g ss is wr => ∃ (i : Nat) (s : ByteArray), i ≤ xs.length ∧ g = xs.length - i ∧ s.size ≤ 10 * i ∧ textGo (xs.drop i) i s = R ∧ Below W2.heap.size W2 wr ∧ ss = .string s ∧ is = .int .i64 i)
  case atStart => exact ⟨0, ⟨#[]⟩, Nat.zero_le _, rfl, Nat.zero_le _, HR.out.symm, Below.refl _ _, rfl, rfl⟩
  case round =>
    obtain ⟨i, s, hi, hg, hsz, hgo, hbw, rfl, rfl⟩ := hrel
    have HG := Lib.hid hg
    clear hg
    by_cases hlt : i < xs.length
    · rw [text_step xs i hlt] at hgo
      have hact := HA.out _ (List.getElem_mem hlt)
      obtain ⟨b, off, hA, hb, c0, c1⟩ := (rx.below (bnext hb2 hbw)).at2 (f := fun x : TAct => .int .i64 x.1) (g := fun x : TAct => .string x.2) hlt
      subst hA
      generalize xs[i] = a at *
      obtain ⟨p1, p2⟩ := a
      simp only at c0 c1
      have hp2 : p2.size ≤ 1 := by
        rcases hact with ⟨_, hl⟩ | ⟨_, _, hz⟩
        · have := hl.1; simp only at this; omega
        · simp only at hz; omega
      have hkind : p1 = 0 ∨ p1 = 1 ∨ p1 = 2 ∨ p1 = 3 ∨ p1 = 4 ∨ p1 = 5 := by
        rcases hact with ⟨h0, _⟩ | ⟨_, hr, _⟩
        · simp only at h0; omega
        · simp only at hr; omega
      have we1 := (hbw.cell (p := ⟨wb, 1, none⟩) hwl).trans wc1
      have we2 := (hbw.cell (p := ⟨wb, 2, none⟩) hwl).trans wc2
      have we3 := (hbw.cell (p := ⟨wb, 3, none⟩) hwl).trans wc3
      have we4 := (hbw.cell (p := ⟨wb, 4, none⟩) hwl).trans wc4
      have we5 := (hbw.cell (p := ⟨wb, 5, none⟩) hwl).trans wc5
      have i1 : (0 : Int) ≤ (i : Int) := by omega
      have hwl2 := Nat.lt_of_lt_of_le hwl hbw.size
      have i2 : (i : Int) < (xs.length : Int) := by omega
      clear hact
      by_cases hi0 : 0 < i
      · have hd : decide ((0 : Int) < (i : Int)) = true := by simp; omega
        have hd2 : decide (0 < i) = true := by simp; omega
        rw [if_pos hi0] at hgo
        rcases hkind with hk0 | hk0 | hk0 | hk0 | hk0 | hk0
        · subst hk0
          have hw : actW (0, p2) = (⟨#[39]⟩ ++ p2) := by unfold actW; rw [if_pos rfl]
          rw [hw] at hgo
          have HF := Lib.hid hgo
          have HSz := Lib.hid (show ((s ++ ⟨#[32]⟩) ++ (⟨#[39]⟩ ++ p2)).size ≤ 10 * (i + 1) by simp only [ByteArray.size_append]; have h1 : (⟨#[32]⟩ : ByteArray).size = 1 := rfl; have h2 : (⟨#[39]⟩ : ByteArray).size = 1 := rfl; omega)
          clear hgo hw
          go_wp2_with fail
          go_roundg (xs.length - (i + 1))
          case measure => rw [HG.out]; omega
          case rel => exact ⟨i + 1, _, by omega, rfl, HSz.out, HF.out, bal hbw _, rfl, by go_num⟩
        · subst hk0
          have hw : actW (1, p2) = (⟨#[115, 112, 97, 99, 101]⟩ : ByteArray) := by rfl
          rw [hw] at hgo
          have HF := Lib.hid hgo
          have HSz := Lib.hid (show ((s ++ ⟨#[32]⟩) ++ (⟨#[115, 112, 97, 99, 101]⟩ : ByteArray)).size ≤ 10 * (i + 1) by simp only [ByteArray.size_append]; have h1 : (⟨#[32]⟩ : ByteArray).size = 1 := rfl; have h2 : (⟨#[115, 112, 97, 99, 101]⟩ : ByteArray).size = 5 := rfl; omega)
          clear hgo hw
          go_wp2_with fail
          go_roundg (xs.length - (i + 1))
          case measure => rw [HG.out]; omega
          case rel => exact ⟨i + 1, _, by omega, rfl, HSz.out, HF.out, bal hbw _, rfl, by go_num⟩
        · subst hk0
          have hw : actW (2, p2) = (⟨#[98, 97, 99, 107]⟩ : ByteArray) := by rfl
          rw [hw] at hgo
          have HF := Lib.hid hgo
          have HSz := Lib.hid (show ((s ++ ⟨#[32]⟩) ++ (⟨#[98, 97, 99, 107]⟩ : ByteArray)).size ≤ 10 * (i + 1) by simp only [ByteArray.size_append]; have h1 : (⟨#[32]⟩ : ByteArray).size = 1 := rfl; have h2 : (⟨#[98, 97, 99, 107]⟩ : ByteArray).size = 4 := rfl; omega)
          clear hgo hw
          go_wp2_with fail
          go_roundg (xs.length - (i + 1))
          case measure => rw [HG.out]; omega
          case rel => exact ⟨i + 1, _, by omega, rfl, HSz.out, HF.out, bal hbw _, rfl, by go_num⟩
        · subst hk0
          have hw : actW (3, p2) = (⟨#[104, 97, 108, 102]⟩ : ByteArray) := by rfl
          rw [hw] at hgo
          have HF := Lib.hid hgo
          have HSz := Lib.hid (show ((s ++ ⟨#[32]⟩) ++ (⟨#[104, 97, 108, 102]⟩ : ByteArray)).size ≤ 10 * (i + 1) by simp only [ByteArray.size_append]; have h1 : (⟨#[32]⟩ : ByteArray).size = 1 := rfl; have h2 : (⟨#[104, 97, 108, 102]⟩ : ByteArray).size = 4 := rfl; omega)
          clear hgo hw
          go_wp2_with fail
          go_roundg (xs.length - (i + 1))
          case measure => rw [HG.out]; omega
          case rel => exact ⟨i + 1, _, by omega, rfl, HSz.out, HF.out, bal hbw _, rfl, by go_num⟩
        · subst hk0
          have hw : actW (4, p2) = (⟨#[102, 114, 101, 101]⟩ : ByteArray) := by rfl
          rw [hw] at hgo
          have HF := Lib.hid hgo
          have HSz := Lib.hid (show ((s ++ ⟨#[32]⟩) ++ (⟨#[102, 114, 101, 101]⟩ : ByteArray)).size ≤ 10 * (i + 1) by simp only [ByteArray.size_append]; have h1 : (⟨#[32]⟩ : ByteArray).size = 1 := rfl; have h2 : (⟨#[102, 114, 101, 101]⟩ : ByteArray).size = 4 := rfl; omega)
          clear hgo hw
          go_wp2_with fail
          go_roundg (xs.length - (i + 1))
          case measure => rw [HG.out]; omega
          case rel => exact ⟨i + 1, _, by omega, rfl, HSz.out, HF.out, bal hbw _, rfl, by go_num⟩
        · subst hk0
          have hw : actW (5, p2) = (⟨#[114, 101, 116, 117, 114, 110]⟩ : ByteArray) := by rfl
          rw [hw] at hgo
          have HF := Lib.hid hgo
          have HSz := Lib.hid (show ((s ++ ⟨#[32]⟩) ++ (⟨#[114, 101, 116, 117, 114, 110]⟩ : ByteArray)).size ≤ 10 * (i + 1) by simp only [ByteArray.size_append]; have h1 : (⟨#[32]⟩ : ByteArray).size = 1 := rfl; have h2 : (⟨#[114, 101, 116, 117, 114, 110]⟩ : ByteArray).size = 6 := rfl; omega)
          clear hgo hw
          go_wp2_with fail
          go_roundg (xs.length - (i + 1))
          case measure => rw [HG.out]; omega
          case rel => exact ⟨i + 1, _, by omega, rfl, HSz.out, HF.out, bal hbw _, rfl, by go_num⟩
      · have hd : decide ((0 : Int) < (i : Int)) = false := by simp; omega
        have hd2 : decide (0 < i) = false := by simp; omega
        rw [if_neg hi0] at hgo
        rcases hkind with hk0 | hk0 | hk0 | hk0 | hk0 | hk0
        · subst hk0
          have hw : actW (0, p2) = (⟨#[39]⟩ ++ p2) := by unfold actW; rw [if_pos rfl]
          rw [hw] at hgo
          have HF := Lib.hid hgo
          have HSz := Lib.hid (show ((s) ++ (⟨#[39]⟩ ++ p2)).size ≤ 10 * (i + 1) by simp only [ByteArray.size_append]; have h2 : (⟨#[39]⟩ : ByteArray).size = 1 := rfl; omega)
          clear hgo hw
          go_wp2_with fail
          go_roundg (xs.length - (i + 1))
          case measure => rw [HG.out]; omega
          case rel => exact ⟨i + 1, _, by omega, rfl, HSz.out, HF.out, bal hbw _, rfl, by go_num⟩
        · subst hk0
          have hw : actW (1, p2) = (⟨#[115, 112, 97, 99, 101]⟩ : ByteArray) := by rfl
          rw [hw] at hgo
          have HF := Lib.hid hgo
          have HSz := Lib.hid (show ((s) ++ (⟨#[115, 112, 97, 99, 101]⟩ : ByteArray)).size ≤ 10 * (i + 1) by simp only [ByteArray.size_append]; have h2 : (⟨#[115, 112, 97, 99, 101]⟩ : ByteArray).size = 5 := rfl; omega)
          clear hgo hw
          go_wp2_with fail
          go_roundg (xs.length - (i + 1))
          case measure => rw [HG.out]; omega
          case rel => exact ⟨i + 1, _, by omega, rfl, HSz.out, HF.out, bal hbw _, rfl, by go_num⟩
        · subst hk0
          have hw : actW (2, p2) = (⟨#[98, 97, 99, 107]⟩ : ByteArray) := by rfl
          rw [hw] at hgo
          have HF := Lib.hid hgo
          have HSz := Lib.hid (show ((s) ++ (⟨#[98, 97, 99, 107]⟩ : ByteArray)).size ≤ 10 * (i + 1) by simp only [ByteArray.size_append]; have h2 : (⟨#[98, 97, 99, 107]⟩ : ByteArray).size = 4 := rfl; omega)
          clear hgo hw
          go_wp2_with fail
          go_roundg (xs.length - (i + 1))
          case measure => rw [HG.out]; omega
          case rel => exact ⟨i + 1, _, by omega, rfl, HSz.out, HF.out, bal hbw _, rfl, by go_num⟩
        · subst hk0
          have hw : actW (3, p2) = (⟨#[104, 97, 108, 102]⟩ : ByteArray) := by rfl
          rw [hw] at hgo
          have HF := Lib.hid hgo
          have HSz := Lib.hid (show ((s) ++ (⟨#[104, 97, 108, 102]⟩ : ByteArray)).size ≤ 10 * (i + 1) by simp only [ByteArray.size_append]; have h2 : (⟨#[104, 97, 108, 102]⟩ : ByteArray).size = 4 := rfl; omega)
          clear hgo hw
          go_wp2_with fail
          go_roundg (xs.length - (i + 1))
          case measure => rw [HG.out]; omega
          case rel => exact ⟨i + 1, _, by omega, rfl, HSz.out, HF.out, bal hbw _, rfl, by go_num⟩
        · subst hk0
          have hw : actW (4, p2) = (⟨#[102, 114, 101, 101]⟩ : ByteArray) := by rfl
          rw [hw] at hgo
          have HF := Lib.hid hgo
          have HSz := Lib.hid (show ((s) ++ (⟨#[102, 114, 101, 101]⟩ : ByteArray)).size ≤ 10 * (i + 1) by simp only [ByteArray.size_append]; have h2 : (⟨#[102, 114, 101, 101]⟩ : ByteArray).size = 4 := rfl; omega)
          clear hgo hw
          go_wp2_with fail
          go_roundg (xs.length - (i + 1))
          case measure => rw [HG.out]; omega
          case rel => exact ⟨i + 1, _, by omega, rfl, HSz.out, HF.out, bal hbw _, rfl, by go_num⟩
        · subst hk0
          have hw : actW (5, p2) = (⟨#[114, 101, 116, 117, 114, 110]⟩ : ByteArray) := by rfl
          rw [hw] at hgo
          have HF := Lib.hid hgo
          have HSz := Lib.hid (show ((s) ++ (⟨#[114, 101, 116, 117, 114, 110]⟩ : ByteArray)).size ≤ 10 * (i + 1) by simp only [ByteArray.size_append]; have h2 : (⟨#[114, 101, 116, 117, 114, 110]⟩ : ByteArray).size = 6 := rfl; omega)
          clear hgo hw
          go_wp2_with fail
          go_roundg (xs.length - (i + 1))
          case measure => rw [HG.out]; omega
          case rel => exact ⟨i + 1, _, by omega, rfl, HSz.out, HF.out, bal hbw _, rfl, by go_num⟩
    · have hfin : s = R := by
        rw [List.drop_of_length_le (by omega)] at hgo; exact hgo
      have HF := Lib.hid hfin
      clear hfin hgo
      go_wp2_with fail
      go_ret
      exact RS1.mk (by rw [HM.out, HF.out]) (bnext hb2 hbw)
set_option maxHeartbeats 6400000 in
set_option maxRecDepth 10000 in
theorem spec_ActText_any (A : Option Addr) (c : Nat) (xs : List TAct) (hx : xs.length ≤ 1048576) (hk : ∀ x ∈ xs, KAct x) (w : World) (rx : Row w A encAct 2 xs) :
    Calls Try.prog 14 #[.slice A xs.length c] w (RS1 (M_ActText xs) w) := by
  by_cases h : ActsOk xs
  case neg =>
    have HM := Lib.hid (show M_ActText xs = ⟨#[]⟩ by unfold M_ActText; rw [if_neg h])
    go_enter Try.func14, Try.ntmps14
    go_wp2_with (go_at_call 39; refine (RBb.no (l04Acts_any _ _ xs hx hk _ rx) h).mono ?_; rintro e w1 ⟨rfl, hb1⟩)
    go_ret
    exact RS1.mk HM.out.symm hb1
  obtain ⟨R, hR⟩ : ∃ R, R = textGo xs 0 ⟨#[]⟩ := ⟨_, rfl⟩
  have HM := Lib.hid (show M_ActText xs = R by unfold M_ActText; rw [if_pos h, hR])
  have HR := Lib.hid hR
  have h200 := h.1
  have HA := Lib.hid h.2
  clear hR
  go_enter Try.func14, Try.ntmps14
  go_wp2_with (go_at_call 39; refine (RBb.yes (l04Acts_any _ _ xs hx hk _ rx) h).mono ?_; rintro e w1 ⟨rfl, hb1⟩)
  obtain ⟨W2, hW2⟩ : ∃ W2, W2 = w1.alloc (.cells #[.string { data := #[] }, .string { data := #[115, 112, 97, 99, 101] }, .string { data := #[98, 97, 99, 107] }, .string { data := #[104, 97, 108, 102] }, .string { data := #[102, 114, 101, 101] }, .string { data := #[114, 101, 116, 117, 114, 110] }] 9) := ⟨_, rfl⟩
  have hb2 : Below w.heap.size w W2 := by rw [hW2]; exact bal hb1 _
  obtain ⟨wb, hwb⟩ : ∃ n, n = w1.heap.size := ⟨_, rfl⟩
  have hwl : wb < W2.heap.size := by rw [hW2, hwb]; simp
  have wc1 : W2.cell? ⟨wb, 1, none⟩ = some (.string { data := #[115, 112, 97, 99, 101] }) := by rw [hW2, hwb]; simp [go_sem]
  have wc2 : W2.cell? ⟨wb, 2, none⟩ = some (.string { data := #[98, 97, 99, 107] }) := by rw [hW2, hwb]; simp [go_sem]
  have wc3 : W2.cell? ⟨wb, 3, none⟩ = some (.string { data := #[104, 97, 108, 102] }) := by rw [hW2, hwb]; simp [go_sem]
  have wc4 : W2.cell? ⟨wb, 4, none⟩ = some (.string { data := #[102, 114, 101, 101] }) := by rw [hW2, hwb]; simp [go_sem]
  have wc5 : W2.cell? ⟨wb, 5, none⟩ = some (.string { data := #[114, 101, 116, 117, 114, 110] }) := by rw [hW2, hwb]; simp [go_sem]
  rw [← hW2, ← hwb]
  clear hW2 hwb
  go_loopg [4, 5] xs.length (fun g ss is wr => ∃ (i : Nat) (s : ByteArray), i ≤ xs.length ∧ g = xs.length - i ∧ s.size ≤ 10 * i ∧ textGo (xs.drop i) i s = R ∧ Below W2.heap.size W2 wr ∧ ss = .string s ∧ is = .int .i64 i)
  case atStart => exact ⟨0, ⟨#[]⟩, Nat.zero_le _, rfl, Nat.zero_le _, HR.out.symm, Below.refl _ _, rfl, rfl⟩
  case round =>
    obtain ⟨i, s, hi, hg, hsz, hgo, hbw, rfl, rfl⟩ := hrel
    have HG := Lib.hid hg
    clear hg
    by_cases hlt : i < xs.length
    · rw [text_step xs i hlt] at hgo
      have hact := HA.out _ (List.getElem_mem hlt)
      obtain ⟨b, off, hA, hb, c0, c1⟩ := (rx.below (bnext hb2 hbw)).at2 (f := fun x : TAct => .int .i64 x.1) (g := fun x : TAct => .string x.2) hlt
      subst hA
      generalize xs[i] = a at *
      obtain ⟨p1, p2⟩ := a
      simp only at c0 c1
      have hp2 : p2.size ≤ 1 := by
        rcases hact with ⟨_, hl⟩ | ⟨_, _, hz⟩
        · have := hl.1; simp only at this; omega
        · simp only at hz; omega
      have hkind : p1 = 0 ∨ p1 = 1 ∨ p1 = 2 ∨ p1 = 3 ∨ p1 = 4 ∨ p1 = 5 := by
        rcases hact with ⟨h0, _⟩ | ⟨_, hr, _⟩
        · simp only at h0; omega
        · simp only at hr; omega
      have we1 := (hbw.cell (p := ⟨wb, 1, none⟩) hwl).trans wc1
      have we2 := (hbw.cell (p := ⟨wb, 2, none⟩) hwl).trans wc2
      have we3 := (hbw.cell (p := ⟨wb, 3, none⟩) hwl).trans wc3
      have we4 := (hbw.cell (p := ⟨wb, 4, none⟩) hwl).trans wc4
      have we5 := (hbw.cell (p := ⟨wb, 5, none⟩) hwl).trans wc5
      have i1 : (0 : Int) ≤ (i : Int) := by omega
      have hwl2 := Nat.lt_of_lt_of_le hwl hbw.size
      have i2 : (i : Int) < (xs.length : Int) := by omega
      clear hact
      by_cases hi0 : 0 < i
      · have hd : decide ((0 : Int) < (i : Int)) = true := by simp; omega
        have hd2 : decide (0 < i) = true := by simp; omega
        rw [if_pos hi0] at hgo
        rcases hkind with hk0 | hk0 | hk0 | hk0 | hk0 | hk0
        · subst hk0
          have hw : actW (0, p2) = (⟨#[39]⟩ ++ p2) := by unfold actW; rw [if_pos rfl]
          rw [hw] at hgo
          have HF := Lib.hid hgo
          have HSz := Lib.hid (show ((s ++ ⟨#[32]⟩) ++ (⟨#[39]⟩ ++ p2)).size ≤ 10 * (i + 1) by simp only [ByteArray.size_append]; have h1 : (⟨#[32]⟩ : ByteArray).size = 1 := rfl; have h2 : (⟨#[39]⟩ : ByteArray).size = 1 := rfl; omega)
          clear hgo hw
          go_wp2_with fail
          go_roundg (xs.length - (i + 1))
          case measure => rw [HG.out]; omega
          case rel => exact ⟨i + 1, _, by omega, rfl, HSz.out, HF.out, hbw, rfl, by go_num⟩
        · subst hk0
          have hw : actW (1, p2) = (⟨#[115, 112, 97, 99, 101]⟩ : ByteArray) := by rfl
          rw [hw] at hgo
          have HF := Lib.hid hgo
          have HSz := Lib.hid (show ((s ++ ⟨#[32]⟩) ++ (⟨#[115, 112, 97, 99, 101]⟩ : ByteArray)).size ≤ 10 * (i + 1) by simp only [ByteArray.size_append]; have h1 : (⟨#[32]⟩ : ByteArray).size = 1 := rfl; have h2 : (⟨#[115, 112, 97, 99, 101]⟩ : ByteArray).size = 5 := rfl; omega)
          clear hgo hw
          go_wp2_with fail
          go_roundg (xs.length - (i + 1))
          case measure => rw [HG.out]; omega
          case rel => exact ⟨i + 1, _, by omega, rfl, HSz.out, HF.out, hbw, rfl, by go_num⟩
        · subst hk0
          have hw : actW (2, p2) = (⟨#[98, 97, 99, 107]⟩ : ByteArray) := by rfl
          rw [hw] at hgo
          have HF := Lib.hid hgo
          have HSz := Lib.hid (show ((s ++ ⟨#[32]⟩) ++ (⟨#[98, 97, 99, 107]⟩ : ByteArray)).size ≤ 10 * (i + 1) by simp only [ByteArray.size_append]; have h1 : (⟨#[32]⟩ : ByteArray).size = 1 := rfl; have h2 : (⟨#[98, 97, 99, 107]⟩ : ByteArray).size = 4 := rfl; omega)
          clear hgo hw
          go_wp2_with fail
          go_roundg (xs.length - (i + 1))
          case measure => rw [HG.out]; omega
          case rel => exact ⟨i + 1, _, by omega, rfl, HSz.out, HF.out, hbw, rfl, by go_num⟩
        · subst hk0
          have hw : actW (3, p2) = (⟨#[104, 97, 108, 102]⟩ : ByteArray) := by rfl
          rw [hw] at hgo
          have HF := Lib.hid hgo
          have HSz := Lib.hid (show ((s ++ ⟨#[32]⟩) ++ (⟨#[104, 97, 108, 102]⟩ : ByteArray)).size ≤ 10 * (i + 1) by simp only [ByteArray.size_append]; have h1 : (⟨#[32]⟩ : ByteArray).size = 1 := rfl; have h2 : (⟨#[104, 97, 108, 102]⟩ : ByteArray).size = 4 := rfl; omega)
          clear hgo hw
          go_wp2_with fail
          go_roundg (xs.length - (i + 1))
          case measure => rw [HG.out]; omega
          case rel => exact ⟨i + 1, _, by omega, rfl, HSz.out, HF.out, hbw, rfl, by go_num⟩
        · subst hk0
          have hw : actW (4, p2) = (⟨#[102, 114, 101, 101]⟩ : ByteArray) := by rfl
          rw [hw] at hgo
          have HF := Lib.hid hgo
          have HSz := Lib.hid (show ((s ++ ⟨#[32]⟩) ++ (⟨#[102, 114, 101, 101]⟩ : ByteArray)).size ≤ 10 * (i + 1) by simp only [ByteArray.size_append]; have h1 : (⟨#[32]⟩ : ByteArray).size = 1 := rfl; have h2 : (⟨#[102, 114, 101, 101]⟩ : ByteArray).size = 4 := rfl; omega)
          clear hgo hw
          go_wp2_with fail
          go_roundg (xs.length - (i + 1))
          case measure => rw [HG.out]; omega
          case rel => exact ⟨i + 1, _, by omega, rfl, HSz.out, HF.out, hbw, rfl, by go_num⟩
        · subst hk0
          have hw : actW (5, p2) = (⟨#[114, 101, 116, 117, 114, 110]⟩ : ByteArray) := by rfl
          rw [hw] at hgo
          have HF := Lib.hid hgo
          have HSz := Lib.hid (show ((s ++ ⟨#[32]⟩) ++ (⟨#[114, 101, 116, 117, 114, 110]⟩ : ByteArray)).size ≤ 10 * (i + 1) by simp only [ByteArray.size_append]; have h1 : (⟨#[32]⟩ : ByteArray).size = 1 := rfl; have h2 : (⟨#[114, 101, 116, 117, 114, 110]⟩ : ByteArray).size = 6 := rfl; omega)
          clear hgo hw
          go_wp2_with fail
          go_roundg (xs.length - (i + 1))
          case measure => rw [HG.out]; omega
          case rel => exact ⟨i + 1, _, by omega, rfl, HSz.out, HF.out, hbw, rfl, by go_num⟩
      · have hd : decide ((0 : Int) < (i : Int)) = false := by simp; omega
        have hd2 : decide (0 < i) = false := by simp; omega
        rw [if_neg hi0] at hgo
        rcases hkind with hk0 | hk0 | hk0 | hk0 | hk0 | hk0
        · subst hk0
          have hw : actW (0, p2) = (⟨#[39]⟩ ++ p2) := by unfold actW; rw [if_pos rfl]
          rw [hw] at hgo
          have HF := Lib.hid hgo
          have HSz := Lib.hid (show ((s) ++ (⟨#[39]⟩ ++ p2)).size ≤ 10 * (i + 1) by simp only [ByteArray.size_append]; have h2 : (⟨#[39]⟩ : ByteArray).size = 1 := rfl; omega)
          clear hgo hw
          go_wp2_with fail
          go_roundg (xs.length - (i + 1))
          case measure => rw [HG.out]; omega
          case rel => exact ⟨i + 1, _, by omega, rfl, HSz.out, HF.out, hbw, rfl, by go_num⟩
        · subst hk0
          have hw : actW (1, p2) = (⟨#[115, 112, 97, 99, 101]⟩ : ByteArray) := by rfl
          rw [hw] at hgo
          have HF := Lib.hid hgo
          have HSz := Lib.hid (show ((s) ++ (⟨#[115, 112, 97, 99, 101]⟩ : ByteArray)).size ≤ 10 * (i + 1) by simp only [ByteArray.size_append]; have h2 : (⟨#[115, 112, 97, 99, 101]⟩ : ByteArray).size = 5 := rfl; omega)
          clear hgo hw
          go_wp2_with fail
          go_roundg (xs.length - (i + 1))
          case measure => rw [HG.out]; omega
          case rel => exact ⟨i + 1, _, by omega, rfl, HSz.out, HF.out, hbw, rfl, by go_num⟩
        · subst hk0
          have hw : actW (2, p2) = (⟨#[98, 97, 99, 107]⟩ : ByteArray) := by rfl
          rw [hw] at hgo
          have HF := Lib.hid hgo
          have HSz := Lib.hid (show ((s) ++ (⟨#[98, 97, 99, 107]⟩ : ByteArray)).size ≤ 10 * (i + 1) by simp only [ByteArray.size_append]; have h2 : (⟨#[98, 97, 99, 107]⟩ : ByteArray).size = 4 := rfl; omega)
          clear hgo hw
          go_wp2_with fail
          go_roundg (xs.length - (i + 1))
          case measure => rw [HG.out]; omega
          case rel => exact ⟨i + 1, _, by omega, rfl, HSz.out, HF.out, hbw, rfl, by go_num⟩
        · subst hk0
          have hw : actW (3, p2) = (⟨#[104, 97, 108, 102]⟩ : ByteArray) := by rfl
          rw [hw] at hgo
          have HF := Lib.hid hgo
          have HSz := Lib.hid (show ((s) ++ (⟨#[104, 97, 108, 102]⟩ : ByteArray)).size ≤ 10 * (i + 1) by simp only [ByteArray.size_append]; have h2 : (⟨#[104, 97, 108, 102]⟩ : ByteArray).size = 4 := rfl; omega)
          clear hgo hw
          go_wp2_with fail
          go_roundg (xs.length - (i + 1))
          case measure => rw [HG.out]; omega
          case rel => exact ⟨i + 1, _, by omega, rfl, HSz.out, HF.out, hbw, rfl, by go_num⟩
        · subst hk0
          have hw : actW (4, p2) = (⟨#[102, 114, 101, 101]⟩ : ByteArray) := by rfl
          rw [hw] at hgo
          have HF := Lib.hid hgo
          have HSz := Lib.hid (show ((s) ++ (⟨#[102, 114, 101, 101]⟩ : ByteArray)).size ≤ 10 * (i + 1) by simp only [ByteArray.size_append]; have h2 : (⟨#[102, 114, 101, 101]⟩ : ByteArray).size = 4 := rfl; omega)
          clear hgo hw
          go_wp2_with fail
          go_roundg (xs.length - (i + 1))
          case measure => rw [HG.out]; omega
          case rel => exact ⟨i + 1, _, by omega, rfl, HSz.out, HF.out, hbw, rfl, by go_num⟩
        · subst hk0
          have hw : actW (5, p2) = (⟨#[114, 101, 116, 117, 114, 110]⟩ : ByteArray) := by rfl
          rw [hw] at hgo
          have HF := Lib.hid hgo
          have HSz := Lib.hid (show ((s) ++ (⟨#[114, 101, 116, 117, 114, 110]⟩ : ByteArray)).size ≤ 10 * (i + 1) by simp only [ByteArray.size_append]; have h2 : (⟨#[114, 101, 116, 117, 114, 110]⟩ : ByteArray).size = 6 := rfl; omega)
          clear hgo hw
          go_wp2_with fail
          go_roundg (xs.length - (i + 1))
          case measure => rw [HG.out]; omega
          case rel => exact ⟨i + 1, _, by omega, rfl, HSz.out, HF.out, hbw, rfl, by go_num⟩
    · have hfin : s = R := by
        rw [List.drop_of_length_le (by omega)] at hgo; exact hgo
      have HF := Lib.hid hfin
      clear hfin hgo
      go_wp2_with fail
      go_ret
      exact RS1.mk (by rw [HM.out, HF.out]) (bnext hb2 hbw)
end Go.Proofs.Ytnliobhijmljpaa
