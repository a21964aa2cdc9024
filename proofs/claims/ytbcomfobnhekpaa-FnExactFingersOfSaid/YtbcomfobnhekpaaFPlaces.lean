/-
  FPlaces: the places of a text: impl.placesOf, impl.strokesOf.
-/
import Derived.Test.YtbcomfobnhekpaaFLay
import Derived.Test.YtbcomfobnhekpaaTInt64S
namespace Go.Proofs.Ytbcomfobnhekpaa
open Go.RowKit
set_option linter.unusedVariables false
attribute [local go_sem ↓] Go.wp_at_zero Go.wp_at_succ
set_option maxHeartbeats 3200000 in
set_option maxRecDepth 10000 in
theorem placesOf_any (lay : ByteArray) (hl : lay.size ≤ 1048576) (hdist : Dist lay) (text : ByteArray) (ht : text.size ≤ 1048576) (w : World) :
    Calls Try.prog 146 #[.string lay, .string text] w fun e w' => Below w.heap.size w w' ∧
      ((AllIn lay text ∧ ∃ v, e = .returned (.tuple #[v, .bool (decide ((text.size : Int) ≤ 400))]) ∧ Own w' w.heap.size 2 encInt 1 v (idxs lay text)) ∨
       (¬ AllIn lay text ∧ e = .returned (.tuple #[.slice none 0 0, .bool false]))) := by
  obtain ⟨i0, hi, hz, hsz, hby⟩ := info_parts info_Int64S
  have HDist := Lib.hid hdist
  clear hdist
  go_enter Try.func146, Try.ntmps146
  go_wp2_with fail
  go_loopg [6, 13] text.size (fun g vs is wr => ∃ (k : Nat), k ≤ text.size ∧ g = text.size - k ∧ (∀ j (h : j < text.size), j < k → 0 ≤ idx lay text[j]) ∧ Own wr w.heap.size 2 encInt 1 vs ((idxs lay text).take k) ∧ Below w.heap.size w wr ∧ is = .int .i64 k)
  case atStart => exact ⟨0, Nat.zero_le _, rfl, fun j h hj => absurd hj (by omega), Own.lit0 (e := encInt) (s := 1) w (fun _ => rfl) w.heap.size 2 (Nat.le_refl _), bal (Below.refl _ _) _, rfl⟩
  case round =>
    obtain ⟨k, hkk, hg, hall, hown, hbw, rfl⟩ := hrel
    have HG := Lib.hid hg
    have HA := Lib.hid hall
    have hlen : ((idxs lay text).take k).length = k := by rw [List.length_take, idxs_len]; omega
    have HL := Lib.hid hlen
    clear hg hall hlen
    by_cases hlt : k < text.size
    · obtain ⟨I, hI⟩ : ∃ I, I = idx lay text[k] := ⟨_, rfl⟩
      have hbd := idx_bd lay text[k]
      have hc2 := UInt8.toNat_lt text[k]
      rw [← hI] at hbd
      obtain ⟨hbd1, hbd2⟩ := hbd
      have hiff : ∀ m (h : m < lay.size), lay[m] = text[k] → I = m := fun m h he => by rw [hI]; exact dist_idx HDist.out m h _ he
      have hiff2 : ∀ m (h : m < lay.size), lay[m] ≠ text[k] → I ≠ m := fun m h he hm => by
        rcases idx_cases lay text[k] with ⟨h1, h2⟩ | ⟨j, hj, h1, h2, h3⟩
        · omega
        · have : j = m := by omega
          subst this
          exact he h2
      have HI := Lib.hid hI
      have HI1 := Lib.hid hiff
      have HI2 := Lib.hid hiff2
      clear hI hiff hiff2
      have i1 : (0 : Int) ≤ (k : Int) := by omega
      have i2 : (k : Int) < (text.size : Int) := by omega
      go_wp2_with fail
      go_loopg [8, 18] lay.size (fun g2 av ms wi => ∃ (m : Nat) (a : Int), m ≤ lay.size ∧ g2 = lay.size - m ∧ a = (if 0 ≤ I ∧ I < m then I else -1) ∧ Below wr.heap.size wr wi ∧ av = .int .i64 a ∧ ms = .int .i64 m)
      case atStart => exact ⟨0, -1, Nat.zero_le _, rfl, by rw [if_neg (by omega)], Below.refl _ _, rfl, rfl⟩
      case round =>
        obtain ⟨m, a, hmm, hg2, ha, hbi, rfl, rfl⟩ := hrel
        have HG2 := Lib.hid hg2
        have HA2 := Lib.hid ha
        clear hg2 ha
        by_cases hlt2 : m < lay.size
        · have hc := UInt8.toNat_lt lay[m]
          have j1 : (0 : Int) ≤ (m : Int) := by omega
          have j2 : (m : Int) < (lay.size : Int) := by omega
          by_cases he : lay[m] = text[k]
          · have te : (((lay[m].toNat : Nat) : Int) == ((text[k].toNat : Nat) : Int)) = true := by rw [he]; simp
            have HE := Lib.hid (HI1.out m hlt2 he)
            clear he
            go_wp2_with fail
            go_quiet (fail)
            go_wp2_with fail
            go_roundg (lay.size - (m + 1))
            case measure => rw [HG2.out]; omega
            case rel => exact ⟨m + 1, m, by omega, rfl, by have := HE.out; rw [if_pos (by omega)]; omega, bdrewN hbi _, rfl, by go_num⟩
          · have te : (((lay[m].toNat : Nat) : Int) == ((text[k].toNat : Nat) : Int)) = false := by
              rw [beq_eq_false_iff_ne]
              intro hh
              exact he (UInt8.toNat_inj.1 (by omega))
            have HE := Lib.hid (HI2.out m hlt2 he)
            clear he
            go_wp2_with fail
            go_quiet (fail)
            go_wp2_with fail
            go_roundg (lay.size - (m + 1))
            case measure => rw [HG2.out]; omega
            case rel =>
              refine ⟨m + 1, a, by omega, rfl, ?_, bdrewN hbi _, rfl, by go_num⟩
              have h1 := HE.out
              rw [HA2.out]
              by_cases hh : 0 ≤ I ∧ I < (m : Int)
              · rw [if_pos hh, if_pos (by omega)]
              · rw [if_neg hh, if_neg (by omega)]
        · have hfin : a = I := by
            rw [HA2.out]
            split <;> omega
          subst hfin
          clear HA2 HI1 HI2
          by_cases hneg : 0 ≤ a
          · have te : decide (a < 0) = false := by simp; omega
            have o2 := (hown.below hbi).below (bal (Below.refl _ _) (.cells #[.int .i64 a] 2))
            go_wp2_with (at_builtin; refine app_own rfl _ _ 29 rfl w.heap.size 2 i0 _ 1 8 Try.underlying29 hi hz hsz hby rfl (by decide) _ ((idxs lay text).take k) rfl o2 ⟨_, 0, none⟩ 1 a rfl (cell_one_new _ _ _) (by simp [Value.oneCell']) (by rw [HL.out]; unfold maxLen; omega) (by rw [HL.out]; omega) (by have := hbw.size; have := hbi.size; simp [go_sem]; omega) ?_; intro v2 w2 hown2 hg2)
            go_roundg (text.size - (k + 1))
            case measure => rw [HG.out]; omega
            case rel =>
              have hB2 := bal (bnext hbw hbi) (.cells #[.int .i64 a] 2)
              have hb7 := below_own (B := w.heap.size) o2 hg2 (Nat.le_refl _) hB2.size
              exact ⟨k + 1, by omega, rfl, fun j hj hjk => (Nat.lt_succ_iff_lt_or_eq.1 hjk).elim (HA.out j hj) (fun hh => by subst hh; rw [← HI.out]; exact hneg), by rw [idxs_take lay text k hlt, ← HI.out]; exact hown2, hB2.trans hb7, by go_num⟩
          · have te : decide (a < 0) = true := by simp; omega
            go_wp2_with fail
            go_ret2
            exact ⟨bnext hbw hbi, .inr ⟨fun hall => by have h1 := hall k hlt; rw [← HI.out] at h1; omega, rfl⟩⟩
    · have hall : AllIn lay text := fun j hj => HA.out j hj (by omega)
      have htk : (idxs lay text).take k = idxs lay text := List.take_of_length_le (by rw [idxs_len]; omega)
      rw [htk] at hown
      have HAll := Lib.hid hall
      clear hall htk
      go_wp2_with fail
      go_ret2
      exact ⟨hbw, .inl ⟨HAll.out, _, rfl, hown⟩⟩
set_option maxHeartbeats 3200000 in
set_option maxRecDepth 10000 in
theorem strokesOf_any (A : Option Addr) (c : Nat) (xs : List TPlace) (hx : xs.length ≤ 1048576) (hk : ∀ x ∈ xs, KPlace x) (lay : ByteArray) (hl : lay.size ≤ 1048576) (text : ByteArray) (ht : text.size ≤ 1048576) (w : World) (rx : Row w A encPlace 3 xs) :
    Calls Try.prog 108 #[.slice A xs.length c, .string lay, .string text] w fun e w' => Below w.heap.size w w' ∧
      (((BoardOk xs ∧ StrokesB xs lay text) ∧ ∃ v, e = .returned (.tuple #[v, .int .i64 0]) ∧ Own w' w.heap.size 2 encInt 1 v (idxs lay text)) ∨
       (¬ (BoardOk xs ∧ StrokesB xs lay text) ∧ ∃ n, e = .returned (.tuple #[.slice none 0 0, .int .i64 n]) ∧ n = codeL xs lay text)) := by
  by_cases hb : BoardOk xs
  case neg =>
    have HM := Lib.hid (show (1 : Int) = codeL xs lay text by unfold codeL; rw [if_neg hb])
    go_enter Try.func108, Try.ntmps108
    go_wp2_with (go_at_call 144; refine (RBb.no (impl_ValidBoard_any _ _ xs hx hk _ rx) hb).mono ?_; rintro e w1 ⟨rfl, hb1⟩)
    go_ret2
    exact ⟨hb1, .inr ⟨fun q => hb q.1, _, rfl, HM.out⟩⟩
  by_cases hL : LayB lay xs.length
  case neg =>
    have HM := Lib.hid (show (2 : Int) = codeL xs lay text by unfold codeL; rw [if_pos hb, if_neg (fun q => hL q.1)])
    go_enter Try.func108, Try.ntmps108
    go_wp2_with (first | (go_at_call 144; refine (RBb.yes (impl_ValidBoard_any _ _ xs hx hk _ rx) hb).mono ?_; rintro e w1 ⟨rfl, hb1⟩) | (go_at_call 145; refine (RBb.no (isBoardLayout_any _ _ xs.length hx lay hl _) hL).mono ?_; rintro e w2 ⟨rfl, hb2⟩))
    go_ret2
    exact ⟨bnext hb1 hb2, .inr ⟨fun q => hL q.2.1, _, rfl, HM.out⟩⟩
  have HD := Lib.hid hL.2.2
  by_cases h4 : text.size ≤ 400
  · have t4 : decide ((text.size : Int) ≤ 400) = true := by simp; omega
    have HM := Lib.hid (show ¬ AllIn lay text → (2 : Int) = codeL xs lay text from fun hin => by unfold codeL; rw [if_pos hb, if_neg (fun q => hin q.2.2)])
    go_enter Try.func108, Try.ntmps108
    go_wp2_with (first | (go_at_call 144; refine (RBb.yes (impl_ValidBoard_any _ _ xs hx hk _ rx) hb).mono ?_; rintro e w1 ⟨rfl, hb1⟩) | (go_at_call 145; refine (RBb.yes (isBoardLayout_any _ _ xs.length hx lay hl _) hL).mono ?_; rintro e w2 ⟨rfl, hb2⟩) | (go_at_call 146; refine (placesOf_any lay hl HD.out text ht _).mono ?_; rintro e w3 ⟨hb3, h3⟩; rcases h3 with ⟨hin, v, rfl, hown⟩ | ⟨hin, rfl⟩))
    · go_ret2
      exact ⟨bnext hb1 (bnext hb2 hb3), .inl ⟨⟨hb, hL, by omega, hin⟩, _, rfl, hown.mono (by have := hb1.size; have := hb2.size; omega)⟩⟩
    · go_ret2
      exact ⟨bnext hb1 (bnext hb2 hb3), .inr ⟨fun q => hin q.2.2.2, _, rfl, HM.out hin⟩⟩
  · have t4 : decide ((text.size : Int) ≤ 400) = false := by simp; omega
    have HM := Lib.hid (show (2 : Int) = codeL xs lay text by unfold codeL; rw [if_pos hb, if_neg (fun q => h4 q.2.1)])
    have H4 := Lib.hid h4
    go_enter Try.func108, Try.ntmps108
    go_wp2_with (first | (go_at_call 144; refine (RBb.yes (impl_ValidBoard_any _ _ xs hx hk _ rx) hb).mono ?_; rintro e w1 ⟨rfl, hb1⟩) | (go_at_call 145; refine (RBb.yes (isBoardLayout_any _ _ xs.length hx lay hl _) hL).mono ?_; rintro e w2 ⟨rfl, hb2⟩) | (go_at_call 146; refine (placesOf_any lay hl HD.out text ht _).mono ?_; rintro e w3 ⟨hb3, h3⟩; rcases h3 with ⟨hin, v, rfl, hown⟩ | ⟨hin, rfl⟩))
    all_goals go_ret2
    all_goals exact ⟨bnext hb1 (bnext hb2 hb3), .inr ⟨fun q => H4.out q.2.2.1, _, rfl, HM.out⟩⟩
end Go.Proofs.Ytbcomfobnhekpaa
