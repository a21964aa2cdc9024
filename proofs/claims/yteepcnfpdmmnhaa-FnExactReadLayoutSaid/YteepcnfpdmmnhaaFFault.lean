/-
  FFault: the first fault of a layout's text form: spec.LayoutFault (l06Fault) and impl.LayoutFault.
-/
import Derived.Test.YteepcnfpdmmnhaaFText
import Derived.Test.YteepcnfpdmmnhaaMore
namespace Go.Proofs.Yteepcnfpdmmnhaa
open Go.RowKit
set_option linter.unusedVariables false
attribute [local go_sem ↓] Go.wp_at_zero Go.wp_at_succ
/-- The fault from byte i on: rest are the bytes to come, pre those before. -/
def faultGo : List UInt8 → List UInt8 → Int → Int → Int → Int × Int
  | [], _, i, _, len => if len = 0 then (1, i) else (0, 0)
  | c :: cs, pre, i, rows, len =>
    if c.toNat = 47 then (if len = 0 ∨ rows = 4 then (1, i) else faultGo cs (pre ++ [c]) (i + 1) (rows + 1) 0)
    else if ¬ (33 ≤ (c.toNat : Int) ∧ (c.toNat : Int) ≤ 126) then (2, i)
    else if c ∈ pre then (3, i)
    else if 12 < len + 1 then (4, i)
    else faultGo cs (pre ++ [c]) (i + 1) rows (len + 1)
def M_LayoutFault (s : ByteArray) : Int × Int := faultGo s.data.toList [] 0 1 0
theorem drop_byte (s : ByteArray) (k : Nat) (h : k < s.size) : s.data.toList.drop k = s[k] :: s.data.toList.drop (k + 1) := by
  rw [List.drop_eq_getElem_cons (by simpa using h)]
  rfl
theorem take_byte (s : ByteArray) (k : Nat) (h : k < s.size) : s.data.toList.take (k + 1) = s.data.toList.take k ++ [s[k]] := by
  rw [List.take_succ_eq_append_getElem (by simpa using h)]
  rfl
theorem mem_take_byte (s : ByteArray) (k : Nat) (c : UInt8) : c ∈ s.data.toList.take k ↔ ∃ (j : Nat) (h : j < s.size), j < k ∧ s[j] = c := by
  constructor
  · intro hm
    obtain ⟨j, hj, he⟩ := List.getElem_of_mem hm
    rw [List.length_take] at hj
    have hjs : j < s.size := by have : s.data.toList.length = s.size := by simp
                                omega
    refine ⟨j, hjs, by omega, ?_⟩
    rw [← he, List.getElem_take]
    rfl
  · rintro ⟨j, h, hjk, rfl⟩
    refine List.mem_of_getElem? (i := j) ?_
    rw [List.getElem?_take, if_pos hjk, List.getElem?_eq_getElem (by simpa using h)]
    rfl
set_option maxHeartbeats 3200000 in
theorem l06Fault_any (s : ByteArray) (hs : s.size ≤ 1048576) (w : World) : Calls Try.prog 80 #[.string s] w (RI2 (M_LayoutFault s) w) := by
  obtain ⟨M, hM⟩ : ∃ M, M = M_LayoutFault s := ⟨_, rfl⟩
  rw [← hM]
  have HM := Lib.hid hM
  clear hM
  go_enter Try.func80, Try.ntmps80
  go_wp2
  go_loopg [4, 5, 6] s.size (fun g r l i wr => ∃ (k : Nat) (rows len : Int), k ≤ s.size ∧ g = s.size - k ∧ 1 ≤ rows ∧ rows ≤ 4 ∧ 0 ≤ len ∧ len ≤ 12 ∧ faultGo (s.data.toList.drop k) (s.data.toList.take k) k rows len = M ∧ Below w.heap.size w wr ∧ r = .int .i64 rows ∧ l = .int .i64 len ∧ i = .int .i64 k)
  case atStart => exact ⟨0, 1, 0, Nat.zero_le _, rfl, by omega, by omega, by omega, by omega, by rw [HM.out]; rfl, Below.refl _ _, rfl, rfl, rfl⟩
  case round =>
    obtain ⟨k, rows, len, hk, hg, hr1, hr4, hl0, hl12, hgo, hbw, rfl, rfl, rfl⟩ := hrel
    have HG := Lib.hid hg
    have HF := Lib.hid hgo
    clear hg hgo
    by_cases hlt : k < s.size
    · have hF := HF.out
      rw [drop_byte s k hlt] at hF
      unfold faultGo at hF
      have hc := UInt8.toNat_lt s[k]
      by_cases h47 : s[k].toNat = 47
      · rw [if_pos h47] at hF
        have t47 : (((s[k].toNat : Nat) : Int) == 47) = true := by rw [h47]; rfl
        by_cases hz : len = 0 ∨ rows = 4
        · rw [if_pos hz] at hF
          have HF2 := Lib.hid hF
          clear hF HF h47
          rcases ss2 (len = 0) (rows = 4) with z | ⟨z, z2⟩ | ⟨z, z2⟩
          · have tz : (len == 0) = true := by rw [z]; rfl
            clear hz z
            go_wp2
            go_ret2
            exact RI2.mk HF2.out hbw
          · have tz : (len == 0) = false := by rw [beq_eq_false_iff_ne]; exact z
            have tz2 : 4 < rows + 1 := by omega
            clear hz z2
            go_wp2
            go_ret2
            exact RI2.mk HF2.out hbw
          · exact absurd hz (by omega)
        · rw [if_neg hz] at hF
          have HF2 := Lib.hid hF
          have tz : (len == 0) = false := by rw [beq_eq_false_iff_ne]; omega
          have tz2 : rows + 1 ≤ 4 := by omega
          clear hF HF h47 hz
          go_wp2
          go_roundg (s.size - (k + 1))
          case measure => rw [HG.out]; omega
          case rel => exact ⟨k + 1, rows + 1, 0, by omega, rfl, by omega, by omega, by omega, by omega, by rw [take_byte s k hlt]; exact_mod_cast HF2.out, hbw, rfl, rfl, by go_num⟩
      · rw [if_neg h47] at hF
        have t47 : (((s[k].toNat : Nat) : Int) == 47) = false := by rw [beq_eq_false_iff_ne]; omega
        have H47 := Lib.hid h47
        clear h47
        by_cases hL : 33 ≤ (s[k].toNat : Int) ∧ (s[k].toNat : Int) ≤ 126
        case neg =>
          rw [if_pos hL] at hF
          have HF2 := Lib.hid hF
          have NL := Lib.hid (mt (letter_one s k hlt).1 hL)
          clear hF HF hL
          go_wp2_with (go_at_call 130; refine (RB.no (l02Letter_any (s.extract k (k + 1)) (by rw [extract_one s k hlt]; omega) _) NL.out).mono ?_; rintro e w1 ⟨rfl, rfl⟩)
          go_ret2
          exact RI2.mk HF2.out hbw
        rw [if_neg (fun h => h hL)] at hF
        have YL := Lib.hid ((letter_one s k hlt).2 hL)
        have HF2 := Lib.hid hF
        clear hF HF hL
        go_wp2_with (go_at_call 130; refine (RB.yes (l02Letter_any (s.extract k (k + 1)) (by rw [extract_one s k hlt]; omega) _) YL.out).mono ?_; rintro e w1 ⟨rfl, rfl⟩)
        go_loopg [7] k (fun g2 j wi => ∃ (m : Nat), m ≤ k ∧ g2 = k - m ∧ (∀ (q : Nat) (h : q < s.size), q < m → s[q] ≠ s[k]) ∧ Below w.heap.size w wi ∧ j = .int .i64 m)
        case atStart => exact ⟨0, Nat.zero_le _, rfl, fun q _ hq => absurd hq (by omega), hbw, rfl⟩
        case round =>
          obtain ⟨m, hm, hg2, hne, hbi, rfl⟩ := hrel
          have HG2 := Lib.hid hg2
          have HN := Lib.hid hne
          clear hg2 hne
          by_cases hmk : m < k
          · have hms : m < s.size := by omega
            have i1 : (0 : Int) ≤ (m : Int) := by omega
            have i2 : (m : Int) < (s.size : Int) := by omega
            have i3 : (0 : Int) ≤ (k : Int) := by omega
            have i4 : (k : Int) < (s.size : Int) := by omega
            by_cases he : s[m] = s[k]
            · have te : (((s[m].toNat : Nat) : Int) == ((s[k].toNat : Nat) : Int)) = true := by rw [he]; simp
              have hF := HF2.out
              rw [if_pos ((mem_take_byte s k s[k]).2 ⟨m, hms, hmk, he⟩)] at hF
              have HF3 := Lib.hid hF
              clear hF he
              go_wp2
              go_quiet (fail)
              go_wp2
              go_ret2
              exact RI2.mk HF3.out (bdrewN hbi _)
            · have te : (((s[m].toNat : Nat) : Int) == ((s[k].toNat : Nat) : Int)) = false := by
                rw [beq_eq_false_iff_ne]
                intro hh
                exact he (UInt8.toNat_inj.1 (by omega))
              have HE := Lib.hid he
              clear he
              go_wp2
              go_quiet (fail)
              go_wp2
              go_roundg (k - (m + 1))
              case measure => rw [HG2.out]; omega
              case rel => exact ⟨m + 1, by omega, rfl, fun q hq hqm => (Nat.lt_succ_iff_lt_or_eq.1 hqm).elim (HN.out q hq) (fun hh => by subst hh; exact HE.out), bdrewN hbi _, by go_num⟩
          · have hF := HF2.out
            rw [if_neg (fun hmem => by obtain ⟨j, h, hjk, hj⟩ := (mem_take_byte s k s[k]).1 hmem; exact HN.out j h (by omega) hj)] at hF
            by_cases h12 : 12 < len + 1
            · rw [if_pos h12] at hF
              have HF3 := Lib.hid hF
              clear hF
              go_wp2
              go_ret2
              exact RI2.mk HF3.out hbi
            · rw [if_neg h12] at hF
              have HF3 := Lib.hid hF
              clear hF
              go_wp2
              go_roundg (s.size - (k + 1))
              case measure => rw [HG.out]; omega
              case rel => exact ⟨k + 1, rows, len + 1, by omega, rfl, by omega, by omega, by omega, by omega, by rw [take_byte s k hlt]; exact_mod_cast HF3.out, hbi, rfl, rfl, by go_num⟩
    · have hF := HF.out
      rw [List.drop_of_length_le (by have : s.data.toList.length = s.size := by simp
                                     omega)] at hF
      unfold faultGo at hF
      have hk2 : s.size = k := by omega
      by_cases hz : len = 0
      · rw [if_pos hz] at hF
        have tz : (len == 0) = true := by rw [hz]; rfl
        have HF2 := Lib.hid hF
        have HK2 := Lib.hid hk2
        clear hF HF hz hk2
        go_wp2
        go_ret2
        exact RI2.mk (by rw [← HF2.out, HK2.out]) hbw
      · rw [if_neg hz] at hF
        have tz : (len == 0) = false := by rw [beq_eq_false_iff_ne]; exact hz
        have HF2 := Lib.hid hF
        clear hF HF hz
        go_wp2
        go_ret2
        exact RI2.mk HF2.out hbw
theorem zeros256 : Try.zeroCells171.toList = List.replicate 256 (.bool false) := by kernel_rfl
theorem zeros256_one : Try.zeroCells171.toList.all (·.oneCell') = true := by kernel_rfl
/-- Which letters were seen: byte j. -/
def seenF (pre : List UInt8) (j : Nat) : Bool := pre.any fun b => b.toNat == j && j != 47
theorem seenF_at (pre : List UInt8) (c : UInt8) (h : c.toNat ≠ 47) : seenF pre c.toNat = true ↔ c ∈ pre := by
  unfold seenF
  rw [List.any_eq_true]
  constructor
  · rintro ⟨b, hb, hh⟩
    simp only [Bool.and_eq_true, beq_iff_eq, bne_iff_ne] at hh
    rw [← UInt8.toNat_inj.1 hh.1]
    exact hb
  · intro hm
    exact ⟨c, hm, by simp [h]⟩
theorem seenF_snoc (pre : List UInt8) (c : UInt8) (j : Nat) : seenF (pre ++ [c]) j = (seenF pre j || (c.toNat == j && j != 47)) := by
  unfold seenF
  rw [List.any_append]
  simp
set_option maxHeartbeats 3200000 in
theorem impl_LayoutFault_any (s : ByteArray) (hs : s.size ≤ 1048576) (w : World) : Calls Try.prog 82 #[.string s] w (RI2 (M_LayoutFault s) w) := by
  obtain ⟨M, hM⟩ : ∃ M, M = M_LayoutFault s := ⟨_, rfl⟩
  rw [← hM]
  have HM := Lib.hid hM
  clear hM
  have hst := store_zero (P := Try.prog) w Try.zeroCells171 171 zeros256_one
  have HR := Lib.hid (rowIs_of_list w Try.zeroCells171 171 256 (.bool false) zeros256)
  go_enter Try.func82, Try.ntmps82
  go_wp2
  go_loopg [4, 5, 12] s.size (fun g r l i wr => ∃ (k : Nat) (rows len : Int), k ≤ s.size ∧ g = s.size - k ∧ 1 ≤ rows ∧ rows ≤ 4 ∧ 0 ≤ len ∧ len ≤ 12 ∧ faultGo (s.data.toList.drop k) (s.data.toList.take k) k rows len = M ∧ Below w.heap.size w wr ∧ wr.rowIs w.heap.size 171 256 (fun j => .bool (seenF (s.data.toList.take k) j)) ∧ r = .int .i64 rows ∧ l = .int .i64 len ∧ i = .int .i64 k)
  case atStart => exact ⟨0, 1, 0, Nat.zero_le _, rfl, by omega, by omega, by omega, by omega, by rw [HM.out]; rfl, bal (Below.refl _ _) _, HR.out.congr (fun j _ => by simp [seenF]), rfl, rfl, rfl⟩
  case round =>
    obtain ⟨k, rows, len, hk, hg, hr1, hr4, hl0, hl12, hgo, hbw, hrow, rfl, rfl, rfl⟩ := hrel
    have HG := Lib.hid hg
    have HF := Lib.hid hgo
    have HRow := Lib.hid hrow
    clear hg hgo hst HR hrow
    by_cases hlt : k < s.size
    · have hF := HF.out
      rw [drop_byte s k hlt] at hF
      unfold faultGo at hF
      have hc := UInt8.toNat_lt s[k]
      by_cases h47 : s[k].toNat = 47
      · rw [if_pos h47] at hF
        have t47 : (((s[k].toNat : Nat) : Int) == 47) = true := by rw [h47]; rfl
        have H47 := Lib.hid h47
        by_cases hz : len = 0 ∨ rows = 4
        · rw [if_pos hz] at hF
          have HF2 := Lib.hid hF
          clear hF HF h47
          rcases ss2 (len = 0) (rows = 4) with z | ⟨z, z2⟩ | ⟨z, z2⟩
          · have tz : (len == 0) = true := by rw [z]; rfl
            clear hz z
            go_wp2
            go_ret2
            exact RI2.mk HF2.out hbw
          · have tz : (len == 0) = false := by rw [beq_eq_false_iff_ne]; exact z
            have tz2 : (rows == 4) = true := by rw [z2]; rfl
            clear hz z2
            go_wp2
            go_ret2
            exact RI2.mk HF2.out hbw
          · exact absurd hz (by omega)
        · rw [if_neg hz] at hF
          have HF2 := Lib.hid hF
          have tz : (len == 0) = false := by rw [beq_eq_false_iff_ne]; omega
          have tz2 : (rows == 4) = false := by rw [beq_eq_false_iff_ne]; omega
          have hr3 : rows + 1 ≤ 4 := by omega
          clear hF HF h47 hz
          go_wp2
          go_roundg (s.size - (k + 1))
          case measure => rw [HG.out]; omega
          case rel =>
            refine ⟨k + 1, rows + 1, 0, by omega, rfl, by omega, by omega, by omega, by omega, by rw [take_byte s k hlt]; exact_mod_cast HF2.out, hbw, HRow.out.congr (fun j _ => ?_), by go_num, rfl, by go_num⟩
            rw [take_byte s k hlt, seenF_snoc, H47.out]
            by_cases hj : 47 = j
            · subst hj; simp
            · simp [hj]
      · rw [if_neg h47] at hF
        have t47 : (((s[k].toNat : Nat) : Int) == 47) = false := by rw [beq_eq_false_iff_ne]; omega
        have H47 := Lib.hid h47
        have cell := HRow.out.cell (i := s[k].toNat) (by omega)
        have frz := HRow.out.frozen s[k].toNat
        have hseen := seenF_at (s.data.toList.take k) s[k] h47
        clear h47
        by_cases hL : 33 ≤ (s[k].toNat : Int) ∧ (s[k].toNat : Int) ≤ 126
        case neg =>
          rw [if_pos hL] at hF
          have HF2 := Lib.hid hF
          have NL := Lib.hid (mt (letter_one s k hlt).1 hL)
          clear hF HF hL hseen
          go_wp2_with (go_at_call 131; refine (RB.no (isLetter_any (s.extract k (k + 1)) (by rw [extract_one s k hlt]; omega) _) NL.out).mono ?_; rintro e w1 ⟨rfl, rfl⟩)
          go_ret2
          exact RI2.mk HF2.out hbw
        rw [if_neg (fun h => h hL)] at hF
        have YL := Lib.hid ((letter_one s k hlt).2 hL)
        clear HF hL
        by_cases hm : s[k] ∈ s.data.toList.take k
        · rw [if_pos hm] at hF
          have HF2 := Lib.hid hF
          rw [hseen.2 hm] at cell
          clear hF hm hseen
          go_wp2_with (go_at_call 131; refine (RB.yes (isLetter_any (s.extract k (k + 1)) (by rw [extract_one s k hlt]; omega) _) YL.out).mono ?_; rintro e w1 ⟨rfl, rfl⟩)
          go_ret2
          exact RI2.mk HF2.out hbw
        · rw [if_neg hm] at hF
          have hsf : seenF (s.data.toList.take k) s[k].toNat = false := Bool.eq_false_iff.2 (fun h => hm (hseen.1 h))
          rw [hsf] at cell
          clear hm hseen hsf
          by_cases h12 : 12 < len + 1
          · rw [if_pos h12] at hF
            have HF2 := Lib.hid hF
            clear hF
            go_wp2_with (go_at_call 131; refine (RB.yes (isLetter_any (s.extract k (k + 1)) (by rw [extract_one s k hlt]; omega) _) YL.out).mono ?_; rintro e w1 ⟨rfl, rfl⟩)
            go_ret2
            exact RI2.mk HF2.out hbw
          · rw [if_neg h12] at hF
            have HF2 := Lib.hid hF
            clear hF
            go_wp2_with (go_at_call 131; refine (RB.yes (isLetter_any (s.extract k (k + 1)) (by rw [extract_one s k hlt]; omega) _) YL.out).mono ?_; rintro e w1 ⟨rfl, rfl⟩)
            go_roundg (s.size - (k + 1))
            case measure => rw [HG.out]; omega
            case rel =>
              refine ⟨k + 1, rows, len + 1, by omega, rfl, by omega, by omega, by omega, by omega, by rw [take_byte s k hlt]; exact_mod_cast HF2.out, hbw.setCell (Nat.le_refl _) _, (HRow.out.set s[k].toNat (.bool true)).congr (fun j _ => ?_), rfl, rfl, by go_num⟩
              rw [take_byte s k hlt, seenF_snoc]
              by_cases hj : j = s[k].toNat
              · subst hj; simp [H47.out]
              · have hj' : (s[k].toNat == j) = false := by rw [beq_eq_false_iff_ne]; exact fun h => hj h.symm
                simp [hj, hj']
    · have hF := HF.out
      rw [List.drop_of_length_le (by have : s.data.toList.length = s.size := by simp
                                     omega)] at hF
      unfold faultGo at hF
      have hk2 : s.size = k := by omega
      by_cases hz : len = 0
      · rw [if_pos hz] at hF
        have tz : (len == 0) = true := by rw [hz]; rfl
        have HF2 := Lib.hid hF
        have HK2 := Lib.hid hk2
        clear hF HF hz hk2
        go_wp2
        go_ret2
        exact RI2.mk (by rw [← HF2.out, HK2.out]) hbw
      · rw [if_neg hz] at hF
        have tz : (len == 0) = false := by rw [beq_eq_false_iff_ne]; exact hz
        have HF2 := Lib.hid hF
        clear hF HF hz
        go_wp2
        go_ret2
        exact RI2.mk HF2.out hbw
end Go.Proofs.Yteepcnfpdmmnhaa
