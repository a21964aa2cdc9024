/-
  FLayOk: valid layouts: spec.l06Row, l06At, l06Ok, ValidLayout; impl.ValidLayout.
-/
import Derived.Test.YteepcnfpdmmnhaaFLay
import Derived.Test.YteepcnfpdmmnhaaMore
namespace Go.Proofs.Yteepcnfpdmmnhaa
open Go.RowKit
set_option linter.unusedVariables false
attribute [local go_sem ↓] Go.wp_at_zero Go.wp_at_succ
/-- The letter at row r, column c. -/
def AtP (xs : List ByteArray) (r c : Nat) (ch : UInt8) : Prop := ∃ h : r < xs.length, ∃ h2 : c < xs[r].size, xs[r][c] = ch
/-- (r', c') lies before (r, c). -/
def Bef (r c r' c' : Nat) : Prop := r' < r ∨ (r' = r ∧ c' < c)
def LayD (xs : List ByteArray) : Prop := ∀ r c r' c' ch, AtP xs r c ch → AtP xs r' c' ch → r = r' ∧ c = c'
def RowOk (s : ByteArray) : Prop := 1 ≤ s.size ∧ s.size ≤ 12 ∧ ∀ k (h : k < s.size), (33 ≤ (s[k].toNat : Int) ∧ (s[k].toNat : Int) ≤ 126) ∧ (s[k].toNat : Int) ≠ 47
def LayoutOk (xs : List ByteArray) : Prop := (1 ≤ xs.length ∧ xs.length ≤ 4) ∧ (∀ s ∈ xs, RowOk s) ∧ LayD xs
noncomputable instance decLayoutOk (xs : List ByteArray) : Decidable (LayoutOk xs) := Classical.propDecidable _
def posGo (ch : UInt8) : List ByteArray → Nat → Int × Int
  | [], _ => (-1, -1)
  | s :: ss, r => if idx s ch < 0 then posGo ch ss (r + 1) else ((r : Int), idx s ch)
def pos (xs : List ByteArray) (ch : UInt8) : Int × Int := posGo ch xs 0
theorem posGo_cases (ch : UInt8) : ∀ (ss : List ByteArray) (r0 : Nat), (posGo ch ss r0 = (-1, -1) ∧ ∀ r c, ¬ AtP ss r c ch) ∨ ∃ r c : Nat, posGo ch ss r0 = (((r0 + r : Nat) : Int), (c : Int)) ∧ AtP ss r c ch ∧ ∀ r' c', Bef r c r' c' → ¬ AtP ss r' c' ch
  | [], r0 => .inl ⟨rfl, fun r c h => by obtain ⟨h, _⟩ := h; simp at h⟩
  | s :: ss, r0 => by
    unfold posGo
    rcases idx_cases s ch with ⟨h1, h2⟩ | ⟨j, hj, h1, h2, h3⟩
    · rw [if_pos (by omega)]
      have h0 : ∀ c, ¬ AtP (s :: ss) 0 c ch := fun c ⟨h, hc, he⟩ => h2 c hc he
      rcases posGo_cases ch ss (r0 + 1) with ⟨q1, q2⟩ | ⟨r, c, q1, ⟨qa, qb, qc⟩, q3⟩
      · refine .inl ⟨q1, fun r c h => ?_⟩
        rcases r with _ | r
        · exact h0 c h
        · obtain ⟨ha, hb, hc⟩ := h
          exact q2 r c ⟨by simpa using ha, hb, hc⟩
      · refine .inr ⟨r + 1, c, by rw [q1, show r0 + 1 + r = r0 + (r + 1) by omega], ⟨by simpa using qa, qb, qc⟩, fun r' c' hb h => ?_⟩
        rcases r' with _ | r'
        · exact h0 c' h
        · obtain ⟨ha, hb2, hc⟩ := h
          exact q3 r' c' (by unfold Bef at hb ⊢; omega) ⟨by simpa using ha, hb2, hc⟩
    · rw [if_neg (by omega)]
      refine .inr ⟨0, j, by rw [h1]; rfl, ⟨by simp, hj, h2⟩, fun r' c' hb ⟨ha, hb2, hc⟩ => ?_⟩
      have hr : r' = 0 := by unfold Bef at hb; omega
      subst hr
      exact h3 c' hb2 (by unfold Bef at hb; omega) hc
theorem pos_of_D {xs : List ByteArray} (h : LayD xs) {r c : Nat} {ch : UInt8} (ha : AtP xs r c ch) : pos xs ch = ((r : Int), (c : Int)) := by
  unfold pos
  rcases posGo_cases ch xs 0 with ⟨_, q2⟩ | ⟨r', c', q1, q2, _⟩
  · exact absurd ha (q2 r c)
  · obtain ⟨e1, e2⟩ := h r c r' c' ch ha q2
    rw [q1, e1, e2, Nat.zero_add]
theorem D_of_pos {xs : List ByteArray} (h : ∀ r c ch, AtP xs r c ch → pos xs ch = ((r : Int), (c : Int))) : LayD xs := by
  intro r c r' c' ch h1 h2
  have e := (h r c ch h1).symm.trans (h r' c' ch h2)
  simp only [Prod.mk.injEq] at e
  omega
/-- A letter that lies before (r, c). -/
def SeenQ (xs : List ByteArray) (r c j : Nat) : Prop := ∃ r' c' ch, Bef r c r' c' ∧ AtP xs r' c' ch ∧ UInt8.toNat ch = j
noncomputable instance decSeenQ (xs : List ByteArray) (r c j : Nat) : Decidable (SeenQ xs r c j) := Classical.propDecidable _
noncomputable def seenP (xs : List ByteArray) (r c j : Nat) : Bool := decide (SeenQ xs r c j)
theorem seenP_zero (xs : List ByteArray) (j : Nat) : seenP xs 0 0 j = false := by
  unfold seenP
  rw [decide_eq_false_iff_not]
  rintro ⟨r', c', ch, hb, _⟩
  unfold Bef at hb
  omega
theorem seenP_succ (xs : List ByteArray) (r c j : Nat) (h : r < xs.length) (h2 : c < xs[r].size) : seenP xs r (c + 1) j = (seenP xs r c j || (xs[r][c].toNat == j)) := by
  unfold seenP
  rw [Bool.eq_iff_iff, Bool.or_eq_true, decide_eq_true_iff, decide_eq_true_iff, beq_iff_eq]
  constructor
  · rintro ⟨r', c', ch, hb, ha, hj⟩
    by_cases hx : r' = r ∧ c' = c
    · obtain ⟨rfl, rfl⟩ := hx
      obtain ⟨_, _, rfl⟩ := ha
      exact .inr hj
    · exact .inl ⟨r', c', ch, by unfold Bef at hb ⊢; omega, ha, hj⟩
  · rintro (⟨r', c', ch, hb, ha, hj⟩ | hj)
    · exact ⟨r', c', ch, by unfold Bef at hb ⊢; omega, ha, hj⟩
    · exact ⟨r, c, xs[r][c], by unfold Bef; omega, ⟨h, h2, rfl⟩, hj⟩
theorem seenP_row (xs : List ByteArray) (r j : Nat) (h : r < xs.length) : seenP xs (r + 1) 0 j = seenP xs r xs[r].size j := by
  unfold seenP
  rw [Bool.eq_iff_iff, decide_eq_true_iff, decide_eq_true_iff]
  constructor
  · rintro ⟨r', c', ch, hb, ha, hj⟩
    refine ⟨r', c', ch, ?_, ha, hj⟩
    obtain ⟨h1, h2, _⟩ := ha
    unfold Bef at hb ⊢
    by_cases hx : r' = r
    · subst hx; exact .inr ⟨rfl, h2⟩
    · omega
  · rintro ⟨r', c', ch, hb, ha, hj⟩
    exact ⟨r', c', ch, by unfold Bef at hb ⊢; omega, ha, hj⟩
def DBef (xs : List ByteArray) (k m : Nat) : Prop := ∀ r c r' c' ch, Bef k m r c → Bef k m r' c' → AtP xs r c ch → AtP xs r' c' ch → r = r' ∧ c = c'
theorem DBef_zero (xs : List ByteArray) : DBef xs 0 0 := fun r c r' c' ch h _ _ _ => by unfold Bef at h; omega
theorem DBef_succ {xs : List ByteArray} {k m : Nat} (h : DBef xs k m) (hk : k < xs.length) (hm : m < xs[k].size) (hn : ¬ SeenQ xs k m xs[k][m].toNat) : DBef xs k (m + 1) := by
  intro r c r' c' ch h1 h2 a1 a2
  have key : ∀ r c, Bef k (m + 1) r c → Bef k m r c ∨ (r = k ∧ c = m) := fun r c q => by unfold Bef at q ⊢; omega
  rcases key r c h1 with b1 | ⟨e1, e2⟩ <;> rcases key r' c' h2 with b2 | ⟨e3, e4⟩
  · exact h r c r' c' ch b1 b2 a1 a2
  · subst e3 e4
    obtain ⟨_, _, rfl⟩ := a2
    exact absurd ⟨r, c, _, b1, a1, rfl⟩ hn
  · subst e1 e2
    obtain ⟨_, _, rfl⟩ := a1
    exact absurd ⟨r', c', _, b2, a2, rfl⟩ hn
  · omega
theorem DBef_row {xs : List ByteArray} {k : Nat} (hk : k < xs.length) (h : DBef xs k xs[k].size) : DBef xs (k + 1) 0 := by
  intro r c r' c' ch h1 h2 a1 a2
  have key : ∀ r c, Bef (k + 1) 0 r c → AtP xs r c ch → Bef k xs[k].size r c := fun r c q a => by
    obtain ⟨_, q2, _⟩ := a
    unfold Bef at q ⊢
    by_cases hx : r = k
    · subst hx; exact .inr ⟨rfl, q2⟩
    · omega
  exact h r c r' c' ch (key r c h1 a1) (key r' c' h2 a2) a1 a2
theorem DBef_end {xs : List ByteArray} {k : Nat} (hk : xs.length ≤ k) (h : DBef xs k 0) : LayD xs := by
  intro r c r' c' ch a1 a2
  have b1 : r < xs.length := a1.1
  have b2 : r' < xs.length := a2.1
  exact h r c r' c' ch (by unfold Bef; omega) (by unfold Bef; omega) a1 a2
theorem not_D {xs : List ByteArray} {k m : Nat} (hk : k < xs.length) (hm : m < xs[k].size) (h : SeenQ xs k m xs[k][m].toNat) : ¬ LayD xs := by
  intro hd
  obtain ⟨r, c, ch, hb, ha, he⟩ := h
  have : ch = xs[k][m] := UInt8.toNat_inj.1 he
  subst this
  have := hd r c k m _ ha ⟨hk, hm, rfl⟩
  unfold Bef at hb
  omega
set_option maxHeartbeats 1600000 in
theorem l06Row_any (s : ByteArray) (hs : s.size ≤ 1048576) (w : World) : Calls Try.prog 132 #[.string s] w (RB (RowOk s) w) := by
  go_enter Try.func132, Try.ntmps132
  go_wp2
  go_loop [3] (fun i => ∃ k : Nat, k ≤ s.size ∧ (∀ j (h : j < s.size), j < k → (33 ≤ (s[j].toNat : Int) ∧ (s[j].toNat : Int) ≤ 126) ∧ (s[j].toNat : Int) ≠ 47) ∧ i = .int .i64 k) (fun i => s.size - (intOf i).toNat)
  case atStart => exact ⟨0, Nat.zero_le _, fun j _ hj => absurd hj (by omega), rfl⟩
  case round =>
    obtain ⟨k, hk, hall, rfl⟩ := hrel
    have HA := Lib.hid hall
    clear hall
    by_cases hlt : k < s.size
    · have hc := UInt8.toNat_lt s[k]
      have hl := letter_one s k hlt
      have hx : (s.extract k (k + 1)).size ≤ 1048576 := by rw [extract_one s k hlt]; omega
      have HX := Lib.hid hx
      clear hx
      by_cases h1 : 33 ≤ (s[k].toNat : Int) ∧ (s[k].toNat : Int) ≤ 126
      · by_cases h2 : (s[k].toNat : Int) = 47
        · have te : (((s[k].toNat : Nat) : Int) == 47) = true := by rw [h2]; rfl
          have hL := hl.2 h1
          have HH := Lib.hid h2
          clear hl h1 h2
          go_wp2_with (go_at_call 130; refine (RB.yes (l02Letter_any _ HX.out _) hL).mono ?_; rintro e w1 ⟨rfl, rfl⟩)
          go_ret
          exact RB.mk (nott fun hh => (hh.2.2 k hlt).2 HH.out)
        · have te : (((s[k].toNat : Nat) : Int) == 47) = false := by rw [beq_eq_false_iff_ne]; exact h2
          have hL := hl.2 h1
          have HH := Lib.hid (And.intro h1 h2)
          clear hl h1 h2
          go_wp2_with (go_at_call 130; refine (RB.yes (l02Letter_any _ HX.out _) hL).mono ?_; rintro e w1 ⟨rfl, rfl⟩)
          go_round
          case rel => exact ⟨k + 1, by omega, fun j hj hjk => (Nat.lt_succ_iff_lt_or_eq.1 hjk).elim (HA.out j hj) (fun hh => by subst hh; exact HH.out), by go_num⟩
          case measure => simp [intOf]; omega
      · have hL : ¬ LetterOk (s.extract k (k + 1)) := fun q => h1 (hl.1 q)
        have HH := Lib.hid h1
        have HLn := Lib.hid hL
        clear hl h1 hL
        go_wp2_with (go_at_call 130; refine (RB.no (l02Letter_any _ HX.out _) HLn.out).mono ?_; rintro e w1 ⟨rfl, rfl⟩)
        go_ret
        exact RB.mk (nott fun hh => HH.out (hh.2.2 k hlt).1)
    · go_wp2_with (go_at_call 68; refine (l00In_any _ _ _ _).mono ?_; rintro e w1 ⟨b, rfl, hb, rfl⟩)
      go_ret
      exact RB.mk (hb.trans ⟨fun h => ⟨by omega, by omega, fun j hj => HA.out j hj (by omega)⟩, fun h => ⟨by have := h.1; omega, by have := h.2.1; omega⟩⟩)
set_option maxHeartbeats 3200000 in
theorem l06At_any (A : Option Addr) (c : Nat) (xs : List ByteArray) (hx : xs.length ≤ 1048576) (hk : ∀ x ∈ xs, KStringS x) (ch : UInt8) (w : World) (rx : Row w A encStr 1 xs) :
    Calls Try.prog 133 #[.slice A xs.length c, .int .u8 (ch.toNat : Int)] w fun e w' => e = .returned (.tuple #[.int .i64 (pos xs ch).1, .int .i64 (pos xs ch).2]) ∧ w = w' := by
  obtain ⟨M, hM⟩ : ∃ M, M = pos xs ch := ⟨_, rfl⟩
  rw [← hM]
  have HM := Lib.hid hM
  clear hM
  go_enter Try.func133, Try.ntmps133
  go_wp2
  go_loop [6] (fun i => ∃ k : Nat, k ≤ xs.length ∧ posGo ch (xs.drop k) k = M ∧ i = .int .i64 k) (fun i => xs.length - (intOf i).toNat)
  case atStart => exact ⟨0, Nat.zero_le _, HM.out.symm, rfl⟩
  case round =>
    obtain ⟨k, hkk, hgo, rfl⟩ := hrel
    by_cases hlt : k < xs.length
    · rw [List.drop_eq_getElem_cons hlt] at hgo
      unfold posGo at hgo
      have hks := hk _ (List.getElem_mem hlt)
      obtain ⟨b, off, hA, hb, c0⟩ := rx.at1 (f := fun x : ByteArray => .string x) hlt
      subst hA
      generalize xs[k] = s at *
      have i1 : (0 : Int) ≤ (k : Int) := by omega
      have i2 : (k : Int) < (xs.length : Int) := by omega
      have HF := Lib.hid hgo
      have hks2 : s.size ≤ 1048576 := hks
      clear hgo hks
      go_wp2
      go_loop [7] (fun i => ∃ m : Nat, m ≤ s.size ∧ (if idxGo ch (s.data.toList.drop m) m < 0 then posGo ch (xs.drop (k + 1)) (k + 1) else ((k : Int), idxGo ch (s.data.toList.drop m) m)) = M ∧ i = .int .i64 m) (fun i => s.size - (intOf i).toNat)
      case atStart => exact ⟨0, Nat.zero_le _, HF.out, rfl⟩
      case round =>
        obtain ⟨m, hm, hgo, rfl⟩ := hrel
        by_cases hlt2 : m < s.size
        · rw [byte_drop s m hlt2] at hgo
          unfold idxGo at hgo
          have hc := UInt8.toNat_lt s[m]
          by_cases he : s[m] = ch
          · have te : (((s[m].toNat : Nat) : Int) == ((ch.toNat : Nat) : Int)) = true := by rw [he]; simp
            rw [if_pos he, if_neg (by omega)] at hgo
            have HF2 := Lib.hid hgo
            clear hgo he
            go_wp2
            go_ret2
            exact ⟨by rw [← HF2.out]; rfl, rfl⟩
          · have te : (((s[m].toNat : Nat) : Int) == ((ch.toNat : Nat) : Int)) = false := by
              rw [beq_eq_false_iff_ne]
              intro hh
              exact he (UInt8.toNat_inj.1 (by omega))
            rw [if_neg he] at hgo
            have HF2 := Lib.hid hgo
            clear hgo he
            go_wp2
            go_round
            case rel => exact ⟨m + 1, by omega, HF2.out, by go_num⟩
            case measure => simp [intOf]; omega
        · rw [byte_end s m hlt2] at hgo
          have hgo2 : posGo ch (xs.drop (k + 1)) (k + 1) = M := by
            rw [if_pos (show idxGo ch [] m < 0 by unfold idxGo; omega)] at hgo; exact hgo
          have HF2 := Lib.hid hgo2
          clear hgo hgo2
          go_wp2
          go_round
          case rel => exact ⟨k + 1, by omega, HF2.out, by go_num⟩
          case measure => simp [intOf]; omega
    · rw [List.drop_of_length_le (by omega)] at hgo
      have HF := Lib.hid hgo
      clear hgo
      go_wp2
      go_ret2
      exact ⟨by rw [← HF.out]; rfl, rfl⟩
set_option maxHeartbeats 3200000 in
set_option maxRecDepth 10000 in
theorem l06Ok_any (p : Nat) (A : Option Addr) (c : Nat) (xs : List ByteArray) (hx : xs.length ≤ 1048576) (hk : ∀ x ∈ xs, KStringS x) (w : World) (rx : Row w A encStr 1 xs) (hp : p < w.heap.size) (hc : w.cell? ⟨p, 0, none⟩ = some (.slice A xs.length c)) :
    Calls Try.prog 87 #[.pointer (some ⟨p, 0, none⟩)] w (RBb (LayoutOk xs) w) := by
  have HC := Lib.hid hc
  clear hc
  go_enter Try.func87, Try.ntmps87
  go_wp2_with fail
  go_loopg [3] xs.length (fun g is wr => ∃ k : Nat, k ≤ xs.length ∧ g = xs.length - k ∧ (∀ r c ch, r < k → AtP xs r c ch → pos xs ch = ((r : Int), (c : Int))) ∧ (∀ r (h : r < xs.length), r < k → RowOk xs[r]) ∧ Below w.heap.size w wr ∧ is = .int .i64 k)
  case atStart => exact ⟨0, Nat.zero_le _, rfl, fun r c ch h => absurd h (by omega), fun r h hr => absurd hr (by omega), Below.refl _ _, rfl⟩
  case round =>
    obtain ⟨k, hkk, hg, hpos, hrow, hbw, rfl⟩ := hrel
    have HG := Lib.hid hg
    have HP := Lib.hid hpos
    have HR := Lib.hid hrow
    clear hg hpos hrow
    have e0 := (hbw.cell (p := ⟨p, 0, none⟩) hp).trans HC.out
    have hpw := Nat.lt_of_lt_of_le hp hbw.size
    by_cases hlt : k < xs.length
    · have hks := hk _ (List.getElem_mem hlt)
      obtain ⟨b, off, hA, hb, c0⟩ := rx.at1 (f := fun x : ByteArray => .string x) hlt
      subst hA
      have hbb := Nat.lt_of_lt_of_le hb hbw.size
      have d0 := (hbw.cell (p := ⟨b, _, none⟩) hb).trans c0
      obtain ⟨s, hs⟩ : ∃ s, xs[k] = s := ⟨_, rfl⟩
      rw [hs] at c0 d0 hks
      have C0 := Lib.hid c0
      have HS := Lib.hid hs
      have hks2 : s.size ≤ 1048576 := hks
      clear c0 hs hks
      have i1 : (0 : Int) ≤ (k : Int) := by omega
      have i2 : (k : Int) < (xs.length : Int) := by omega
      by_cases hro : RowOk s
      · go_wp2_with (go_at_call 132; refine (RB.yes (l06Row_any s hks2 _) hro).mono ?_; rintro e w1 ⟨rfl, rfl⟩)
        go_loopg [4] s.size (fun g2 js wr => ∃ m : Nat, m ≤ s.size ∧ g2 = s.size - m ∧ (∀ c (h : c < s.size), c < m → pos xs s[c] = ((k : Int), (c : Int))) ∧ Below w.heap.size w wr ∧ js = .int .i64 m)
        case atStart => exact ⟨0, Nat.zero_le _, rfl, fun c h hc => absurd hc (by omega), hbw, rfl⟩
        case round =>
          obtain ⟨m, hm, hg2, hpm, hbw2, rfl⟩ := hrel
          have HG2 := Lib.hid hg2
          have HPM := Lib.hid hpm
          clear hg2 hpm
          have e2 := (hbw2.cell (p := ⟨p, 0, none⟩) hp).trans HC.out
          have hpw2 := Nat.lt_of_lt_of_le hp hbw2.size
          have hbb2 := Nat.lt_of_lt_of_le hb hbw2.size
          have d2 := (hbw2.cell (p := ⟨b, _, none⟩) hb).trans C0.out
          have rx2 := rx.below hbw2
          have RX2 := Lib.hid rx2
          clear rx2
          by_cases hlt2 : m < s.size
          · have hcc := UInt8.toNat_lt s[m]
            have i3 : (0 : Int) ≤ (m : Int) := by omega
            have i4 : (m : Int) < (s.size : Int) := by omega
            have hat : AtP xs k m s[m] := ⟨hlt, by rw [HS.out]; exact hlt2, by simp only [HS.out]⟩
            rcases ff2 ((pos xs s[m]).1 = (k : Int)) ((pos xs s[m]).2 = (m : Int)) with h1 | ⟨h1, h2⟩ | ⟨h1, h2⟩
            · have te : ((pos xs s[m]).1 != (k : Int)) = true := by rw [bne_iff_ne]; exact h1
              have H1 := Lib.hid h1
              have HAT := Lib.hid hat
              clear h1 hat
              go_wp2_with (go_quiet ((go_at_call 133; exact quiet_left (l06At_any _ _ xs hx hk s[m] _ (RX2.out.below (bdrewN (Below.refl _ _) _))))))
              go_ret
              exact RBb.mk (nott fun hh => H1.out (by rw [pos_of_D hh.2.2 HAT.out])) (bdrewN hbw2 _)
            · have te : ((pos xs s[m]).1 != (k : Int)) = false := by rw [h1]; simp
              have te2 : ((pos xs s[m]).2 != (m : Int)) = true := by rw [bne_iff_ne]; exact h2
              have H2 := Lib.hid h2
              have HAT := Lib.hid hat
              clear h1 h2 hat
              go_wp2_with (go_quiet ((go_at_call 133; exact quiet_left (l06At_any _ _ xs hx hk s[m] _ (RX2.out.below (bdrewN (Below.refl _ _) _))))))
              go_ret
              exact RBb.mk (nott fun hh => H2.out (by rw [pos_of_D hh.2.2 HAT.out])) (bdrewN hbw2 _)
            · have te : ((pos xs s[m]).1 != (k : Int)) = false := by rw [h1]; simp
              have te2 : ((pos xs s[m]).2 != (m : Int)) = false := by rw [h2]; simp
              have HPP := Lib.hid (show pos xs s[m] = ((k : Int), (m : Int)) from Prod.ext h1 h2)
              clear h1 h2 hat
              go_wp2_with (go_quiet ((go_at_call 133; exact quiet_left (l06At_any _ _ xs hx hk s[m] _ (RX2.out.below (bdrewN (Below.refl _ _) _))))))
              go_roundg (s.size - (m + 1))
              case measure => rw [HG2.out]; omega
              case rel => exact ⟨m + 1, by omega, rfl, fun c hc hcm => (Nat.lt_succ_iff_lt_or_eq.1 hcm).elim (HPM.out c hc) (fun hh => by subst hh; exact HPP.out), bdrewN hbw2 _, by go_num⟩
          · go_wp2_with fail
            go_roundg (xs.length - (k + 1))
            case measure => rw [HG.out]; omega
            case rel =>
              refine ⟨k + 1, by omega, rfl, fun r c ch hr ha => ?_, fun r h hr => ?_, hbw2, by go_num⟩
              · rcases Nat.lt_succ_iff_lt_or_eq.1 hr with h1 | h1
                · exact HP.out r c ch h1 ha
                · subst h1
                  obtain ⟨ha1, ha2, ha3⟩ := ha
                  simp only [HS.out] at ha2 ha3
                  rw [← ha3]
                  exact HPM.out c ha2 (by omega)
              · rcases Nat.lt_succ_iff_lt_or_eq.1 hr with h1 | h1
                · exact HR.out r h h1
                · subst h1
                  rw [HS.out]; exact hro
      · go_wp2_with (go_at_call 132; refine (RB.no (l06Row_any s hks2 _) hro).mono ?_; rintro e w1 ⟨rfl, rfl⟩)
        go_ret
        exact RBb.mk (nott fun hh => hro (by rw [← HS.out]; exact hh.2.1 _ (List.getElem_mem hlt))) hbw
    · go_wp2_with (go_at_call 68; refine (l00In_any _ _ _ _).mono ?_; rintro e w1 ⟨b, rfl, hb, rfl⟩)
      go_ret
      refine RBb.mk (hb.trans ⟨fun h => ⟨⟨by omega, by omega⟩, fun s hs => ?_, D_of_pos fun r c ch ha => HP.out r c ch (Nat.lt_of_lt_of_le ha.1 (by omega)) ha⟩, fun h => ⟨by have := h.1; omega, by have := h.1; omega⟩⟩) hbw
      obtain ⟨i, hi, rfl⟩ := List.getElem_of_mem hs
      exact HR.out i hi (by omega)
theorem zerosV : Try.zeroCells171.toList = List.replicate 256 (.bool false) := by kernel_rfl
theorem zerosV_one : Try.zeroCells171.toList.all (·.oneCell') = true := by kernel_rfl
set_option maxHeartbeats 6400000 in
set_option maxRecDepth 10000 in
theorem impl_ValidLayout_any (A : Option Addr) (c : Nat) (xs : List ByteArray) (hx : xs.length ≤ 1048576) (hk : ∀ x ∈ xs, KStringS x) (w : World) (rx : Row w A encStr 1 xs) :
    Calls Try.prog 89 #[.agg #[.slice A xs.length c]] w (RBb (LayoutOk xs) w) := by
  obtain ⟨W0, hW0⟩ : ∃ W0, W0 = w.alloc (.cells #[.slice A xs.length c] 46) := ⟨_, rfl⟩
  have hB0 : Below w.heap.size w W0 := by rw [hW0]; exact bal (Below.refl _ _) _
  have hp : w.heap.size < W0.heap.size := by rw [hW0]; simp
  have hc : W0.cell? ⟨w.heap.size, 0, none⟩ = some (.slice A xs.length c) := by rw [hW0]; simp [go_sem]
  have HW := Lib.hid hW0
  clear hW0
  by_cases h : (1 : Int) ≤ (xs.length : Int) ∧ (xs.length : Int) ≤ 4
  case neg =>
    go_enter Try.func89, Try.ntmps89
    go_wp2_with fail
    rw [← HW.out]
    go_wp2_with (go_at_call 72; refine (between_no _ _ _ h _).mono ?_; rintro e w1 ⟨rfl, rfl⟩)
    go_ret
    exact RBb.mk (nott fun hh => h (by have := hh.1; omega)) hB0
  have hst := store_zero (P := Try.prog) W0 Try.zeroCells171 171 zerosV_one
  have HR := Lib.hid (rowIs_of_list W0 Try.zeroCells171 171 256 (.bool false) zerosV)
  go_enter Try.func89, Try.ntmps89
  go_wp2_with fail
  rw [← HW.out]
  go_wp2_with (go_at_call 72; refine (between_yes _ _ _ h _).mono ?_; rintro e w1 ⟨rfl, rfl⟩)
  have HB := Lib.hid (bal (Below.refl W0.heap.size W0) (.cells Try.zeroCells171 171))
  go_loopg [16] xs.length (fun g is wr => ∃ k : Nat, k ≤ xs.length ∧ g = xs.length - k ∧ (∀ r (h : r < xs.length), r < k → RowOk xs[r]) ∧ DBef xs k 0 ∧ Below W0.heap.size W0 wr ∧ wr.rowIs W0.heap.size 171 256 (fun j => .bool (seenP xs k 0 j)) ∧ is = .int .i64 k)
  case atStart => exact ⟨0, Nat.zero_le _, rfl, fun r h hr => absurd hr (by omega), DBef_zero xs, HB.out, HR.out.congr (fun j _ => by rw [seenP_zero]), rfl⟩
  case round =>
    obtain ⟨k, hkk, hg, hrow, hdb, hbw, hri, rfl⟩ := hrel
    have HG := Lib.hid hg
    have HRo := Lib.hid hrow
    have HRi := Lib.hid hri
    have HD := Lib.hid hdb
    clear hg hrow hri hst HR hdb
    by_cases hlt : k < xs.length
    · have hks := hk _ (List.getElem_mem hlt)
      obtain ⟨b, off, hA, hb, c0⟩ := (rx.below hB0).at1 (f := fun x : ByteArray => .string x) hlt
      subst hA
      have hbb := Nat.lt_of_lt_of_le hb hbw.size
      have d0 := (hbw.cell (p := ⟨b, _, none⟩) hb).trans c0
      obtain ⟨s, hs⟩ : ∃ s, xs[k] = s := ⟨_, rfl⟩
      rw [hs] at c0 d0 hks
      have C0 := Lib.hid c0
      have HS := Lib.hid hs
      have hks2 : s.size ≤ 1048576 := hks
      clear c0 hs hks
      have i1 : (0 : Int) ≤ (k : Int) := by omega
      have i2 : (k : Int) < (xs.length : Int) := by omega
      rcases ff2 (¬ s.size = 0) (TextOk s 33 12) with h1 | ⟨h1, h2⟩ | ⟨h1, h2⟩
      · have h1' : s.size = 0 := Classical.not_not.1 h1
        have te : ((s.size : Int) == 0) = true := by rw [h1']; rfl
        have H1 := Lib.hid h1'
        clear h1 h1'
        go_wp2_with fail
        go_ret
        exact RBb.mk (nott fun hh => by have := (hh.2.1 _ (List.getElem_mem hlt)).1; rw [HS.out] at this; have := H1.out; omega) (bnext hB0 hbw)
      · have te : ((s.size : Int) == 0) = false := by rw [beq_eq_false_iff_ne]; omega
        clear h1
        go_wp2_with (go_at_call 79; refine (RB.no (isText_any s hks2 33 12 (by omega) (by omega) _) h2).mono ?_; rintro e w1 ⟨rfl, rfl⟩)
        go_ret
        refine RBb.mk (nott fun hh => h2 ?_) (bnext hB0 hbw)
        have := hh.2.1 _ (List.getElem_mem hlt)
        rw [HS.out] at this
        exact ⟨by have := this.2.1; omega, fun j hj => (this.2.2 j hj).1⟩
      · have te : ((s.size : Int) == 0) = false := by rw [beq_eq_false_iff_ne]; omega
        have HT := Lib.hid h2
        have H1 := Lib.hid h1
        clear h1
        go_wp2_with (go_at_call 79; refine (RB.yes (isText_any s hks2 33 12 (by omega) (by omega) _) h2).mono ?_; rintro e w1 ⟨rfl, rfl⟩)
        go_loopg [30] s.size (fun g2 js wr => ∃ m : Nat, m ≤ s.size ∧ g2 = s.size - m ∧ (∀ c (h : c < s.size), c < m → (s[c].toNat : Int) ≠ 47) ∧ DBef xs k m ∧ Below W0.heap.size W0 wr ∧ wr.rowIs W0.heap.size 171 256 (fun j => .bool (seenP xs k m j)) ∧ js = .int .i64 m)
        case atStart => exact ⟨0, Nat.zero_le _, rfl, fun c h hc => absurd hc (by omega), HD.out, hbw, HRi.out, rfl⟩
        case round =>
          obtain ⟨m, hm, hg2, hns, hdb2, hbw2, hri2, rfl⟩ := hrel
          have HG2 := Lib.hid hg2
          have HN := Lib.hid hns
          have HD2 := Lib.hid hdb2
          have HRi2 := Lib.hid hri2
          clear hg2 hns hdb2 hri2
          by_cases hlt2 : m < s.size
          · have hcc := UInt8.toNat_lt s[m]
            have cell := HRi2.out.cell (i := s[m].toNat) (by omega)
            have frz := HRi2.out.frozen s[m].toNat
            have i3 : (0 : Int) ≤ (m : Int) := by omega
            have i4 : (m : Int) < (s.size : Int) := by omega
            by_cases h47 : (s[m].toNat : Int) = 47
            · have te2 : (((s[m].toNat : Nat) : Int) == 47) = true := by rw [h47]; rfl
              have H47 := Lib.hid h47
              clear h47 cell frz
              go_wp2_with fail
              go_ret
              exact RBb.mk (nott fun hh => ((hh.2.1 _ (List.getElem_mem hlt)).2.2 m (show m < xs[k].size by rw [HS.out]; exact hlt2)).2 (by simp only [HS.out]; exact H47.out)) (bnext hB0 hbw2)
            · have te2 : (((s[m].toNat : Nat) : Int) == 47) = false := by rw [beq_eq_false_iff_ne]; exact h47
              have H47 := Lib.hid h47
              clear h47
              by_cases hq : SeenQ xs k m s[m].toNat
              · have hsp : seenP xs k m s[m].toNat = true := by unfold seenP; exact decide_eq_true hq
                rw [hsp] at cell
                have HQ := Lib.hid hq
                clear hsp hq frz
                go_wp2_with fail
                go_ret
                exact RBb.mk (nott fun hh => not_D hlt (show m < xs[k].size by rw [HS.out]; exact hlt2) (by simp only [HS.out]; exact HQ.out) hh.2.2) (bnext hB0 hbw2)
              · have hsp : seenP xs k m s[m].toNat = false := by unfold seenP; exact decide_eq_false hq
                rw [hsp] at cell
                have HQ := Lib.hid hq
                clear hsp hq
                go_wp2_with fail
                go_roundg (s.size - (m + 1))
                case measure => rw [HG2.out]; omega
                case rel =>
                  refine ⟨m + 1, by omega, rfl, fun c hc hcm => (Nat.lt_succ_iff_lt_or_eq.1 hcm).elim (HN.out c hc) (fun hh => by subst hh; exact H47.out), DBef_succ HD2.out hlt (show m < xs[k].size by rw [HS.out]; exact hlt2) (by simp only [HS.out]; exact HQ.out), hbw2.setCell (Nat.le_refl _) _, (HRi2.out.set s[m].toNat (.bool true)).congr (fun j _ => ?_), by go_num⟩
                  rw [seenP_succ xs k m j hlt (show m < xs[k].size by rw [HS.out]; exact hlt2)]
                  simp only [HS.out]
                  by_cases hj : j = s[m].toNat
                  · subst hj; simp
                  · have hj' : (s[m].toNat == j) = false := by rw [beq_eq_false_iff_ne]; exact fun h => hj h.symm
                    simp [hj, hj']
          · have hme : m = s.size := by omega
            subst hme
            have hE : xs[k].size = s.size := by rw [HS.out]
            have HE := Lib.hid hE
            clear hE
            go_wp2_with fail
            go_roundg (xs.length - (k + 1))
            case measure => rw [HG.out]; omega
            case rel =>
              refine ⟨k + 1, by omega, rfl, fun r h hr => ?_, DBef_row hlt (by rw [HE.out]; exact HD2.out), hbw2, HRi2.out.congr (fun j _ => by rw [seenP_row xs k j hlt, HE.out]), by go_num⟩
              rcases Nat.lt_succ_iff_lt_or_eq.1 hr with h1 | h1
              · exact HRo.out r h h1
              · subst h1
                rw [HS.out]
                exact ⟨by have := H1.out; omega, by have := HT.out.1; omega, fun j hj => ⟨HT.out.2 j hj, HN.out j hj hj⟩⟩
    · go_wp2_with fail
      go_ret
      refine RBb.mk (yest ⟨⟨by omega, by omega⟩, fun s hs => ?_, DBef_end (by omega) HD.out⟩) (bnext hB0 hbw)
      obtain ⟨i, hi, rfl⟩ := List.getElem_of_mem hs
      exact HRo.out i hi (by omega)
end Go.Proofs.Yteepcnfpdmmnhaa
