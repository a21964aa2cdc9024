/-
  FLine: the fewest acts that type a line: ActsForLine, spec and impl.
-/
import Derived.Test.YtbcomfobnhekpaaFCarriage
import Derived.Test.YtbcomfobnhekpaaFText
import Derived.Test.YtbcomfobnhekpaaApps
import Derived.Test.YtbcomfobnhekpaaTAct
namespace Go.Proofs.Ytbcomfobnhekpaa
open Go.RowKit
set_option linter.unusedVariables false
attribute [local go_sem ↓] Go.wp_at_zero Go.wp_at_succ
/-- The length without blanks at the end. -/
def trimGo (s : ByteArray) : Nat → Nat
  | 0 => 0
  | n + 1 => if s.data.toList.getD n 0 = 32 then trimGo s n else n + 1
def trimN (s : ByteArray) : Nat := trimGo s s.size
theorem trimGo_le (s : ByteArray) : ∀ n, trimGo s n ≤ n
  | 0 => Nat.le_refl _
  | n + 1 => by
    unfold trimGo
    split
    · have := trimGo_le s n; omega
    · exact Nat.le_refl _
theorem bAt_eq (s : ByteArray) (k : Nat) (h : k < s.size) : s.data.toList.getD k 0 = s[k] := by
  rw [List.getD_eq_getElem?_getD, List.getElem?_eq_getElem (by simpa using h)]; rfl
def actOf (s : ByteArray) (i : Nat) : TAct := if s.data.toList.getD i 0 = 32 then (1, ⟨#[]⟩) else (0, s.extract i (i + 1))
def actsT (s : ByteArray) (n : Nat) : List TAct := (List.range n).map (actOf s)
theorem actsT_len (s : ByteArray) (n : Nat) : (actsT s n).length = n := by unfold actsT; simp
theorem actsT_take (s : ByteArray) (n k : Nat) (h : k < n) : (actsT s n).take (k + 1) = (actsT s n).take k ++ [actOf s k] := by
  rw [List.take_succ_eq_append_getElem (by rw [actsT_len]; exact h)]
  unfold actsT; simp
noncomputable def M_ActsForLine (x : TCarriage) (s : ByteArray) : List TAct × Int :=
  if CarriageOk x then (if TextOk s 32 300 then (if x.2.1 - x.1 < 2 * (trimN s : Int) then ([], 5) else (actsT s (trimN s), 0)) else ([], 2)) else ([], 1)
theorem ext_size (s : ByteArray) (n : Nat) (h : n ≤ s.size) : (s.extract 0 n).size = n := by rw [ByteArray.size_extract]; omega
theorem ext_get (s : ByteArray) (n i : Nat) (h : n ≤ s.size) (hi : i < n) : (s.extract 0 n)[i]'(by rw [ext_size s n h]; exact hi) = s[i]'(by omega) := by
  simp [ByteArray.getElem_extract]
theorem ext_ext (s : ByteArray) (n i : Nat) (h : n ≤ s.size) (hi : i < n) : (s.extract 0 n).extract i (i + 1) = s.extract i (i + 1) := by
  rw [ByteArray.extract_extract]
  congr 1 <;> omega
set_option maxHeartbeats 1600000 in
theorem trimRight_any (s : ByteArray) (hs : s.size ≤ 1048576) (w : World) :
    Calls Try.prog 92 #[.string s] w fun e w' => e = .returned (.string (s.extract 0 (trimN s))) ∧ w = w' := by
  obtain ⟨N, hN⟩ : ∃ N, N = trimN s := ⟨_, rfl⟩
  rw [← hN]
  have HN := Lib.hid hN
  clear hN
  go_enter Try.func92, Try.ntmps92
  go_wp2
  go_loop [3] (fun e => ∃ k : Nat, k ≤ s.size ∧ trimGo s k = N ∧ e = .int .i64 k) (fun e => (intOf e).toNat)
  case atStart => exact ⟨s.size, Nat.le_refl _, HN.out.symm, rfl⟩
  case round =>
    obtain ⟨k, hk, hgo, rfl⟩ := hrel
    cases k with
    | zero =>
      have hfin : (0 : Nat) = N := hgo
      subst hfin
      clear hgo
      go_wp2
      go_ret
      exact ⟨rfl, rfl⟩
    | succ k =>
      have hlt : k < s.size := by omega
      have hc := UInt8.toNat_lt s[k]
      unfold trimGo at hgo
      rw [bAt_eq s k hlt] at hgo
      have z0 : ((k + 1 : Nat) : Int) = (k : Int) + 1 := by omega
      have z1 : IntKind.i64.wrap ((k : Int) + 1 - 1) = (k : Int) := by rw [show (k : Int) + 1 - 1 = k from by omega]; exact IntWalk.i64_in _ (by omega)
      have z2 : (0 : Int) < (k : Int) + 1 := by omega
      rw [z0]
      by_cases he : s[k] = 32
      · have te : (((s[k].toNat : Nat) : Int) == 32) = true := by rw [he]; rfl
        rw [if_pos he] at hgo
        have HF := Lib.hid hgo
        clear hgo he z0
        go_wp2
        go_round
        case rel => exact ⟨k, by omega, HF.out, by go_num⟩
        case measure => simp [intOf]
      · have te : (((s[k].toNat : Nat) : Int) == 32) = false := by
          rw [beq_eq_false_iff_ne]
          intro hh
          exact he (UInt8.toNat_inj.1 (by show _ = 32; omega))
        rw [if_neg he] at hgo
        subst hgo
        have HK := Lib.hid z0
        clear he z0
        go_wp2
        go_ret
        exact ⟨by first | rfl | (congr 2), rfl⟩
set_option maxHeartbeats 6400000 in
set_option maxRecDepth 10000 in
theorem impl_ActsForLine_any (x : TCarriage) (hx : okCarriage x) (s : ByteArray) (hs : s.size ≤ 1048576) (w : World) :
    Calls Try.prog 37 #[.agg #[.int .i64 x.1, .int .i64 x.2.1, .int .i64 x.2.2], .string s] w (RLE encAct 2 114 (M_ActsForLine x s) w) := by
  obtain ⟨i0, hi0, hz, hsz, hby⟩ := info_parts infoAct
  obtain ⟨W0, hW0⟩ : ∃ W0, W0 = w.alloc (.cells #[.int .i64 x.1, .int .i64 x.2.1, .int .i64 x.2.2] 53) := ⟨_, rfl⟩
  have hB0 : Below w.heap.size w W0 := by rw [hW0]; exact bal (Below.refl _ _) _
  have k0 : AtCarriage W0 w.heap.size x := by rw [hW0]; exact AtCarriage.new w _ x
  have HW := Lib.hid hW0
  clear hW0
  rcases ff3 (CarriageOk x) (TextOk s 32 300) (¬ x.2.1 - x.1 < 2 * (trimN s : Int)) with h | ⟨h, h2⟩ | ⟨h, h2, h3⟩ | ⟨h, h2, h3⟩
  · have HM := Lib.hid (show M_ActsForLine x s = ([], 1) by unfold M_ActsForLine; rw [if_neg h])
    go_enter Try.func37, Try.ntmps37
    go_wp2_with fail
    rw [← HW.out]
    refine (RBb.no (impl_ValidCarriage_any x hx _) h).mono ?_; rintro e w1 ⟨rfl, hb1⟩
    go_wp2_with fail
    go_ret2
    exact RLE.no (fun _ => rfl) HM.out.symm (bnext hB0 hb1)
  · have HM := Lib.hid (show M_ActsForLine x s = ([], 2) by unfold M_ActsForLine; rw [if_pos h, if_neg h2])
    go_enter Try.func37, Try.ntmps37
    go_wp2_with fail
    rw [← HW.out]
    refine (RBb.yes (impl_ValidCarriage_any x hx _) h).mono ?_; rintro e w1 ⟨rfl, hb1⟩
    go_wp2_with (go_at_call 91; refine (RB.no (isText_any s hs 32 300 (by omega) (by omega) _) h2).mono ?_; rintro e w2 ⟨rfl, rfl⟩)
    go_ret2
    exact RLE.no (fun _ => rfl) HM.out.symm (bnext hB0 hb1)
  · obtain ⟨N, hN⟩ : ∃ N, N = trimN s := ⟨_, rfl⟩
    have hNs : N ≤ s.size := by rw [hN]; exact trimGo_le s s.size
    rw [← hN] at h3
    rw [Classical.not_not] at h3
    have HM := Lib.hid (show M_ActsForLine x s = ([], 5) by unfold M_ActsForLine; rw [if_pos h, if_pos h2, ← hN, if_pos h3])
    have hsz300 : s.size ≤ 300 := by have := h2.1; omega
    obtain ⟨q1, q2, q3, q4, q5, q6, q7⟩ := h
    have hd : decide (x.2.1 - x.1 < 2 * (N : Int)) = true := by simp; omega
    have zz : IntKind.i64.wrap (x.2.1 - x.1) = x.2.1 - x.1 := IntWalk.i64_in _ (by omega)
    have HN := Lib.hid hN
    clear hN 
    have h : CarriageOk x := ⟨q1, q2, q3, q4, q5, q6, q7⟩
    have HC := Lib.hid h
    clear h
    go_enter Try.func37, Try.ntmps37
    go_wp2_with fail
    rw [← HW.out]
    refine (RBb.yes (impl_ValidCarriage_any x hx _) HC.out).mono ?_; rintro e w1 ⟨rfl, hb1⟩
    have k1 := k0.next hb1
    have hB1 := bnext hB0 hb1
    have o1 := Own.lit0 (e := encAct) (s := 2) w1 (fun _ => rfl) w1.heap.size 114 (Nat.le_refl _)
    have hBl : Below w1.heap.size w1 (w1.alloc (.cells #[] 114)) := bal (Below.refl _ _) _
    obtain ⟨T, hT⟩ : ∃ T, s.extract 0 N = T := ⟨_, rfl⟩
    have hTs : T.size = N := by rw [← hT]; exact ext_size s N hNs
    have hTsI : (T.size : Int) = (N : Int) := by rw [hTs]
    have hTb : ∀ i (h : i < N) (h2 : i < T.size), T[i] = s[i]'(by omega) := fun i h h2 => by subst hT; exact ext_get s N i hNs h
    have hTx : ∀ i, i < N → T.extract i (i + 1) = s.extract i (i + 1) := fun i h => by subst hT; exact ext_ext s N i hNs h
    have HTb := Lib.hid hTb
    have HTx := Lib.hid hTx
    have HT := Lib.hid hT
    clear hT hTb hTx
    go_wp2_with (first | (go_at_call 91; refine (RB.yes (isText_any s hs 32 300 (by omega) (by omega) _) h2).mono ?_; rintro e w2 ⟨rfl, rfl⟩) | (go_at_call 92; refine (trimRight_any s hs _).mono ?_; rintro e w3 ⟨rfl, rfl⟩; rw [← HN.out, HT.out]))
    go_ret2
    exact RLE.no (fun _ => rfl) HM.out.symm hB1
  · obtain ⟨N, hN⟩ : ∃ N, N = trimN s := ⟨_, rfl⟩
    have hNs : N ≤ s.size := by rw [hN]; exact trimGo_le s s.size
    rw [← hN] at h3
    
    have HM := Lib.hid (show M_ActsForLine x s = (actsT s N, 0) by unfold M_ActsForLine; rw [if_pos h, if_pos h2, ← hN, if_neg h3])
    have hsz300 : s.size ≤ 300 := by have := h2.1; omega
    obtain ⟨q1, q2, q3, q4, q5, q6, q7⟩ := h
    have hd : decide (x.2.1 - x.1 < 2 * (N : Int)) = false := by simp; omega
    have zz : IntKind.i64.wrap (x.2.1 - x.1) = x.2.1 - x.1 := IntWalk.i64_in _ (by omega)
    have HN := Lib.hid hN
    clear hN 
    have h : CarriageOk x := ⟨q1, q2, q3, q4, q5, q6, q7⟩
    have HC := Lib.hid h
    clear h
    go_enter Try.func37, Try.ntmps37
    go_wp2_with fail
    rw [← HW.out]
    refine (RBb.yes (impl_ValidCarriage_any x hx _) HC.out).mono ?_; rintro e w1 ⟨rfl, hb1⟩
    have k1 := k0.next hb1
    have hB1 := bnext hB0 hb1
    have o1 := Own.lit0 (e := encAct) (s := 2) w1 (fun _ => rfl) w1.heap.size 114 (Nat.le_refl _)
    have hBl : Below w1.heap.size w1 (w1.alloc (.cells #[] 114)) := bal (Below.refl _ _) _
    obtain ⟨T, hT⟩ : ∃ T, s.extract 0 N = T := ⟨_, rfl⟩
    have hTs : T.size = N := by rw [← hT]; exact ext_size s N hNs
    have hTsI : (T.size : Int) = (N : Int) := by rw [hTs]
    have hTb : ∀ i (h : i < N) (h2 : i < T.size), T[i] = s[i]'(by omega) := fun i h h2 => by subst hT; exact ext_get s N i hNs h
    have hTx : ∀ i, i < N → T.extract i (i + 1) = s.extract i (i + 1) := fun i h => by subst hT; exact ext_ext s N i hNs h
    have HTb := Lib.hid hTb
    have HTx := Lib.hid hTx
    have HT := Lib.hid hT
    clear hT hTb hTx
    go_wp2_with (first | (go_at_call 91; refine (RB.yes (isText_any s hs 32 300 (by omega) (by omega) _) h2).mono ?_; rintro e w2 ⟨rfl, rfl⟩) | (go_at_call 92; refine (trimRight_any s hs _).mono ?_; rintro e w3 ⟨rfl, rfl⟩; rw [← HN.out, HT.out]))
    go_loopg [6, 28] N (fun g vs is wr => ∃ (k : Nat), k ≤ N ∧ g = N - k ∧ Own wr w1.heap.size 114 encAct 2 vs ((actsT s N).take k) ∧ Below w1.heap.size w1 wr ∧ is = .int .i64 k)
    case atStart => exact ⟨0, Nat.zero_le _, rfl, o1, hBl, rfl⟩
    case round =>
      obtain ⟨k, hkk, hg, hown, hbw, rfl⟩ := hrel
      have HG := Lib.hid hg
      have hcl : ((actsT s N).take k).length = k := by rw [List.length_take, actsT_len]; omega
      have HL := Lib.hid hcl
      clear hg hcl
      by_cases hlt : k < N
      · have htk := actsT_take s N k hlt
        have hks : k < s.size := by omega
        have hc := UInt8.toNat_lt s[k]
        have hkT : k < T.size := by omega
        have hbT := HTb.out k hlt hkT
        have HbT := Lib.hid hbT
        have hxT := HTx.out k hlt
        clear hbT
        have hc2 := UInt8.toNat_lt T[k]
        by_cases he : s[k] = 32
        · have te : (((T[k].toNat : Nat) : Int) == 32) = true := by rw [HbT.out]; rw [he]; rfl
          have hact : actOf s k = (1, ⟨#[]⟩) := by unfold actOf; rw [bAt_eq s k hks, if_pos he]
          rw [hact] at htk
          have HTK := Lib.hid htk
          have o2 := hown.below (bal (Below.refl _ _) (.cells #[.int .i64 1, .string { data := #[] }] 114))
          have hB2 := bal hbw (.cells #[.int .i64 1, .string { data := #[] }] 114)
          clear htk hact he
          go_wp2_with (at_builtin; refine app_own rfl _ _ 50 rfl w1.heap.size 114 i0 _ 2 24 Try.underlying50 hi0 hz hsz hby rfl (by decide) _ ((actsT s N).take k) rfl o2 ⟨_, 0, none⟩ 1 ((1, ⟨#[]⟩) : TAct) rfl (cells_two_new _ _ _ _) (by simp [Value.oneCell']) (by rw [HL.out]; unfold maxLen; omega) (by rw [HL.out]; omega) hB2.size ?_; intro v2 w2 hown2 hg2)
          go_roundg (N - (k + 1))
          case measure => rw [HG.out]; omega
          case rel =>
            have hb7 := below_own (B := w1.heap.size) o2 hg2 (Nat.le_refl _) hB2.size
            exact ⟨k + 1, by omega, rfl, by rw [HTK.out]; exact hown2, hB2.trans hb7, by go_num⟩
        · have te : (((T[k].toNat : Nat) : Int) == 32) = false := by
            rw [HbT.out]
            rw [beq_eq_false_iff_ne]
            intro hh
            exact he (UInt8.toNat_inj.1 (by show _ = 32; omega))
          have hact : actOf s k = (0, s.extract k (k + 1)) := by unfold actOf; rw [bAt_eq s k hks, if_neg he]
          rw [hact] at htk
          have HTK := Lib.hid htk
          have o2 := hown.below (bal (Below.refl _ _) (.cells #[.int .i64 0, .string (s.extract k (k + 1))] 114))
          have hB2 := bal hbw (.cells #[.int .i64 0, .string (s.extract k (k + 1))] 114)
          clear htk hact he
          go_wp2_with (at_builtin; refine app_own rfl _ _ 50 rfl w1.heap.size 114 i0 _ 2 24 Try.underlying50 hi0 hz hsz hby rfl (by decide) _ ((actsT s N).take k) rfl o2 ⟨_, 0, none⟩ 1 ((0, s.extract k (k + 1)) : TAct) rfl (cells_two_new _ _ _ _) (by simp [Value.oneCell']) (by rw [HL.out]; unfold maxLen; omega) (by rw [HL.out]; omega) hB2.size ?_; intro v2 w2 hown2 hg2)
          go_roundg (N - (k + 1))
          case measure => rw [HG.out]; omega
          case rel =>
            have hb7 := below_own (B := w1.heap.size) o2 hg2 (Nat.le_refl _) hB2.size
            exact ⟨k + 1, by omega, rfl, by rw [HTK.out]; exact hown2, hB2.trans hb7, by go_num⟩
      · have htk : (actsT s N).take k = actsT s N := List.take_of_length_le (by rw [actsT_len]; omega)
        rw [htk] at hown
        clear htk
        go_wp2_with fail
        go_ret2
        exact RLE.mk HM.out.symm (by rw [actsT_len]; omega) (hown.mono hB1.size) (bnext hB1 hbw)
set_option maxHeartbeats 6400000 in
set_option maxRecDepth 10000 in
theorem spec_ActsForLine_any (x : TCarriage) (hx : okCarriage x) (s : ByteArray) (hs : s.size ≤ 1048576) (w : World) :
    Calls Try.prog 35 #[.agg #[.int .i64 x.1, .int .i64 x.2.1, .int .i64 x.2.2], .string s] w (RLE encAct 2 114 (M_ActsForLine x s) w) := by
  obtain ⟨i0, hi0, hz, hsz, hby⟩ := info_parts infoAct
  obtain ⟨W0, hW0⟩ : ∃ W0, W0 = w.alloc (.cells #[.int .i64 x.1, .int .i64 x.2.1, .int .i64 x.2.2] 53) := ⟨_, rfl⟩
  have hB0 : Below w.heap.size w W0 := by rw [hW0]; exact bal (Below.refl _ _) _
  have k0 : AtCarriage W0 w.heap.size x := by rw [hW0]; exact AtCarriage.new w _ x
  have HW := Lib.hid hW0
  clear hW0
  rcases ff3 (CarriageOk x) (TextOk s 32 300) (¬ x.2.1 - x.1 < 2 * (trimN s : Int)) with h | ⟨h, h2⟩ | ⟨h, h2, h3⟩ | ⟨h, h2, h3⟩
  · have HM := Lib.hid (show M_ActsForLine x s = ([], 1) by unfold M_ActsForLine; rw [if_neg h])
    go_enter Try.func35, Try.ntmps35
    go_wp2_with fail
    rw [← HW.out]
    refine (RBb.no (l04Ok_any x hx _) h).mono ?_; rintro e w1 ⟨rfl, hb1⟩
    go_wp2_with fail
    go_ret2
    exact RLE.no (fun _ => rfl) HM.out.symm (bnext hB0 hb1)
  · have HM := Lib.hid (show M_ActsForLine x s = ([], 2) by unfold M_ActsForLine; rw [if_pos h, if_neg h2])
    go_enter Try.func35, Try.ntmps35
    go_wp2_with fail
    rw [← HW.out]
    refine (RBb.yes (l04Ok_any x hx _) h).mono ?_; rintro e w1 ⟨rfl, hb1⟩
    go_wp2_with (go_at_call 89; refine (RB.no (l00Text_any s hs 300 (by omega) _) h2).mono ?_; rintro e w2 ⟨rfl, rfl⟩)
    go_ret2
    exact RLE.no (fun _ => rfl) HM.out.symm (bnext hB0 hb1)
  · obtain ⟨N, hN⟩ : ∃ N, N = trimN s := ⟨_, rfl⟩
    have hNs : N ≤ s.size := by rw [hN]; exact trimGo_le s s.size
    rw [← hN] at h3
    rw [Classical.not_not] at h3
    have HM := Lib.hid (show M_ActsForLine x s = ([], 5) by unfold M_ActsForLine; rw [if_pos h, if_pos h2, ← hN, if_pos h3])
    have hsz300 : s.size ≤ 300 := by have := h2.1; omega
    obtain ⟨q1, q2, q3, q4, q5, q6, q7⟩ := h
    have hd : decide (x.2.1 - x.1 < 2 * (N : Int)) = true := by simp; omega
    have zz : IntKind.i64.wrap (x.2.1 - x.1) = x.2.1 - x.1 := IntWalk.i64_in _ (by omega)
    have HN := Lib.hid hN
    clear hN 
    have h : CarriageOk x := ⟨q1, q2, q3, q4, q5, q6, q7⟩
    have HC := Lib.hid h
    clear h
    go_enter Try.func35, Try.ntmps35
    go_wp2_with fail
    rw [← HW.out]
    refine (RBb.yes (l04Ok_any x hx _) HC.out).mono ?_; rintro e w1 ⟨rfl, hb1⟩
    have k1 := k0.next hb1
    have hB1 := bnext hB0 hb1
    have o1 := Own.lit0 (e := encAct) (s := 2) w1 (fun _ => rfl) w1.heap.size 114 (Nat.le_refl _)
    have hBl : Below w1.heap.size w1 (w1.alloc (.cells #[] 114)) := bal (Below.refl _ _) _
    go_wp2_with (first | (go_at_call 89; refine (RB.yes (l00Text_any s hs 300 (by omega) _) h2).mono ?_; rintro e w2 ⟨rfl, rfl⟩))
    go_loopg [6] s.size (fun g es wr => ∃ (k : Nat), k ≤ s.size ∧ g = k ∧ trimGo s k = N ∧ w1 = wr ∧ es = .int .i64 k)
    case atStart => exact ⟨s.size, Nat.le_refl _, rfl, HN.out.symm, rfl, rfl⟩
    case round =>
      obtain ⟨k, hk, hg, hgo, rfl, rfl⟩ := hrel
      have HGk := Lib.hid hg
      clear hg
      by_cases hcont : 1 ≤ k ∧ s.data.toList.getD (k - 1) 0 = 32
      · obtain ⟨hk1, he⟩ := hcont
        obtain ⟨j, rfl⟩ : ∃ j, k = j + 1 := ⟨k - 1, by omega⟩
        rw [show j + 1 - 1 = j from by omega] at he
        have hlt : j < s.size := by omega
        unfold trimGo at hgo
        rw [if_pos he] at hgo
        rw [bAt_eq s j hlt] at he
        have hc := UInt8.toNat_lt s[j]
        have te : (((s[j].toNat : Nat) : Int) == 32) = true := by rw [he]; rfl
        have z0 : ((j + 1 : Nat) : Int) = (j : Int) + 1 := by omega
        have z1 : IntKind.i64.wrap ((j : Int) + 1 - 1) = (j : Int) := by rw [show (j : Int) + 1 - 1 = j from by omega]; exact IntWalk.i64_in _ (by omega)
        have z2 : (0 : Int) < (j : Int) + 1 := by omega
        rw [z0]
        have HF := Lib.hid hgo
        have HGk2 := HGk.out
        have HGk3 := Lib.hid HGk2
        clear hgo he z0 HGk2
        go_wp2_with fail
        go_roundg j
        case measure => rw [HGk3.out]; omega
        case rel => exact ⟨j, by omega, rfl, HF.out, rfl, by go_num⟩
      · have hfin : k = N := by
          cases k with
          | zero => exact hgo
          | succ j =>
            unfold trimGo at hgo
            rw [if_neg (c := s.data.toList.getD j 0 = 32) (fun q => hcont ⟨by omega, by rw [show j + 1 - 1 = j from by omega]; exact q⟩)] at hgo
            exact hgo
        have HCont := Lib.hid hcont
        clear hgo hcont
        have hw : (k = 0) ∨ (∃ j, k = j + 1 ∧ ∃ h : j < s.size, s[j] ≠ 32) := by
          cases k with
          | zero => exact .inl rfl
          | succ j => exact .inr ⟨j, rfl, by omega, fun q => HCont.out ⟨by omega, by rw [show j + 1 - 1 = j from by omega, bAt_eq s j (by omega)]; exact q⟩⟩
        have HWay := Lib.hid hw
        clear hw
        clear HCont
        replace hfin := hfin.symm
        subst hfin
        rcases HWay.out with h0 | ⟨j, h0, hjs, hne⟩
        · have d0 : decide ((0 : Int) < (N : Int)) = false := by rw [h0]; simp
          have d1 : decide (0 < N) = false := by rw [h0]; simp
          have H0 := Lib.hid h0
          clear h0
          go_wp2_with fail
          go_ret2
          exact RLE.no (fun _ => rfl) HM.out.symm hB1
        · have hc9 := UInt8.toNat_lt s[j]
          have te9 : (((s[j].toNat : Nat) : Int) == 32) = false := by
            rw [beq_eq_false_iff_ne]
            intro hh
            exact hne (UInt8.toNat_inj.1 (by show _ = 32; omega))
          have z0 : (N : Int) = (j : Int) + 1 := by omega
          have d0 : decide ((0 : Int) < (N : Int)) = true := decide_eq_true (by omega)
          have d1 : (0 : Int) < (N : Int) := by omega
          have d2 : 0 < N := by omega
          have d3 : (1 : Int) ≤ (N : Int) := by omega
          have z1 : IntKind.i64.wrap ((N : Int) - 1) = (j : Int) := by rw [show (N : Int) - 1 = j from by omega]; exact IntWalk.i64_in _ (by omega)
          have z2 : ((N : Int) - 1) = (j : Int) := by omega
          have H0 := Lib.hid h0
          have HZ0 := Lib.hid z0
          clear h0 hne z0
          go_wp2_with fail
          go_ret2
          exact RLE.no (fun _ => rfl) HM.out.symm hB1
  · obtain ⟨N, hN⟩ : ∃ N, N = trimN s := ⟨_, rfl⟩
    have hNs : N ≤ s.size := by rw [hN]; exact trimGo_le s s.size
    rw [← hN] at h3
    
    have HM := Lib.hid (show M_ActsForLine x s = (actsT s N, 0) by unfold M_ActsForLine; rw [if_pos h, if_pos h2, ← hN, if_neg h3])
    have hsz300 : s.size ≤ 300 := by have := h2.1; omega
    obtain ⟨q1, q2, q3, q4, q5, q6, q7⟩ := h
    have hd : decide (x.2.1 - x.1 < 2 * (N : Int)) = false := by simp; omega
    have zz : IntKind.i64.wrap (x.2.1 - x.1) = x.2.1 - x.1 := IntWalk.i64_in _ (by omega)
    have HN := Lib.hid hN
    clear hN 
    have h : CarriageOk x := ⟨q1, q2, q3, q4, q5, q6, q7⟩
    have HC := Lib.hid h
    clear h
    go_enter Try.func35, Try.ntmps35
    go_wp2_with fail
    rw [← HW.out]
    refine (RBb.yes (l04Ok_any x hx _) HC.out).mono ?_; rintro e w1 ⟨rfl, hb1⟩
    have k1 := k0.next hb1
    have hB1 := bnext hB0 hb1
    have o1 := Own.lit0 (e := encAct) (s := 2) w1 (fun _ => rfl) w1.heap.size 114 (Nat.le_refl _)
    have hBl : Below w1.heap.size w1 (w1.alloc (.cells #[] 114)) := bal (Below.refl _ _) _
    go_wp2_with (first | (go_at_call 89; refine (RB.yes (l00Text_any s hs 300 (by omega) _) h2).mono ?_; rintro e w2 ⟨rfl, rfl⟩))
    go_loopg [6] s.size (fun g es wr => ∃ (k : Nat), k ≤ s.size ∧ g = k ∧ trimGo s k = N ∧ w1 = wr ∧ es = .int .i64 k)
    case atStart => exact ⟨s.size, Nat.le_refl _, rfl, HN.out.symm, rfl, rfl⟩
    case round =>
      obtain ⟨k, hk, hg, hgo, rfl, rfl⟩ := hrel
      have HGk := Lib.hid hg
      clear hg
      by_cases hcont : 1 ≤ k ∧ s.data.toList.getD (k - 1) 0 = 32
      · obtain ⟨hk1, he⟩ := hcont
        obtain ⟨j, rfl⟩ : ∃ j, k = j + 1 := ⟨k - 1, by omega⟩
        rw [show j + 1 - 1 = j from by omega] at he
        have hlt : j < s.size := by omega
        unfold trimGo at hgo
        rw [if_pos he] at hgo
        rw [bAt_eq s j hlt] at he
        have hc := UInt8.toNat_lt s[j]
        have te : (((s[j].toNat : Nat) : Int) == 32) = true := by rw [he]; rfl
        have z0 : ((j + 1 : Nat) : Int) = (j : Int) + 1 := by omega
        have z1 : IntKind.i64.wrap ((j : Int) + 1 - 1) = (j : Int) := by rw [show (j : Int) + 1 - 1 = j from by omega]; exact IntWalk.i64_in _ (by omega)
        have z2 : (0 : Int) < (j : Int) + 1 := by omega
        rw [z0]
        have HF := Lib.hid hgo
        have HGk2 := HGk.out
        have HGk3 := Lib.hid HGk2
        clear hgo he z0 HGk2
        go_wp2_with fail
        go_roundg j
        case measure => rw [HGk3.out]; omega
        case rel => exact ⟨j, by omega, rfl, HF.out, rfl, by go_num⟩
      · have hfin : k = N := by
          cases k with
          | zero => exact hgo
          | succ j =>
            unfold trimGo at hgo
            rw [if_neg (c := s.data.toList.getD j 0 = 32) (fun q => hcont ⟨by omega, by rw [show j + 1 - 1 = j from by omega]; exact q⟩)] at hgo
            exact hgo
        have HCont := Lib.hid hcont
        clear hgo hcont
        have hw : (k = 0) ∨ (∃ j, k = j + 1 ∧ ∃ h : j < s.size, s[j] ≠ 32) := by
          cases k with
          | zero => exact .inl rfl
          | succ j => exact .inr ⟨j, rfl, by omega, fun q => HCont.out ⟨by omega, by rw [show j + 1 - 1 = j from by omega, bAt_eq s j (by omega)]; exact q⟩⟩
        have HWay := Lib.hid hw
        clear hw
        clear HCont
        replace hfin := hfin.symm
        subst hfin
        rcases HWay.out with h0 | ⟨j, h0, hjs, hne⟩
        · have d0 : decide ((0 : Int) < (N : Int)) = false := by rw [h0]; simp
          have d1 : decide (0 < N) = false := by rw [h0]; simp
          have H0 := Lib.hid h0
          clear h0
          go_wp2_with fail
          go_loopg [7, 8] N (fun g vs is wr => ∃ (k : Nat), k ≤ N ∧ g = N - k ∧ Own wr w1.heap.size 114 encAct 2 vs ((actsT s N).take k) ∧ Below w1.heap.size w1 wr ∧ is = .int .i64 k)
          case atStart => exact ⟨0, Nat.zero_le _, rfl, o1, hBl, rfl⟩
          case round =>
            obtain ⟨k, hkk, hg, hown, hbw, rfl⟩ := hrel
            have HG := Lib.hid hg
            have hcl : ((actsT s N).take k).length = k := by rw [List.length_take, actsT_len]; omega
            have HL := Lib.hid hcl
            clear hg hcl
            by_cases hlt : k < N
            · have htk := actsT_take s N k hlt
              have hks : k < s.size := by omega
              have hc := UInt8.toNat_lt s[k]
              
              by_cases he : s[k] = 32
              · have te : (((s[k].toNat : Nat) : Int) == 32) = true := by rw [he]; rfl
                have hact : actOf s k = (1, ⟨#[]⟩) := by unfold actOf; rw [bAt_eq s k hks, if_pos he]
                rw [hact] at htk
                have HTK := Lib.hid htk
                have o2 := hown.below (bal (Below.refl _ _) (.cells #[.int .i64 1, .string { data := #[] }] 114))
                have hB2 := bal hbw (.cells #[.int .i64 1, .string { data := #[] }] 114)
                clear htk hact he
                go_wp2_with (at_builtin; refine app_own rfl _ _ 50 rfl w1.heap.size 114 i0 _ 2 24 Try.underlying50 hi0 hz hsz hby rfl (by decide) _ ((actsT s N).take k) rfl o2 ⟨_, 0, none⟩ 1 ((1, ⟨#[]⟩) : TAct) rfl (cells_two_new _ _ _ _) (by simp [Value.oneCell']) (by rw [HL.out]; unfold maxLen; omega) (by rw [HL.out]; omega) hB2.size ?_; intro v2 w2 hown2 hg2)
                go_roundg (N - (k + 1))
                case measure => rw [HG.out]; omega
                case rel =>
                  have hb7 := below_own (B := w1.heap.size) o2 hg2 (Nat.le_refl _) hB2.size
                  exact ⟨k + 1, by omega, rfl, by rw [HTK.out]; exact hown2, hB2.trans hb7, by go_num⟩
              · have te : (((s[k].toNat : Nat) : Int) == 32) = false := by
                  rw [beq_eq_false_iff_ne]
                  intro hh
                  exact he (UInt8.toNat_inj.1 (by show _ = 32; omega))
                have hact : actOf s k = (0, s.extract k (k + 1)) := by unfold actOf; rw [bAt_eq s k hks, if_neg he]
                rw [hact] at htk
                have HTK := Lib.hid htk
                have o2 := hown.below (bal (Below.refl _ _) (.cells #[.int .i64 0, .string (s.extract k (k + 1))] 114))
                have hB2 := bal hbw (.cells #[.int .i64 0, .string (s.extract k (k + 1))] 114)
                clear htk hact he
                go_wp2_with (at_builtin; refine app_own rfl _ _ 50 rfl w1.heap.size 114 i0 _ 2 24 Try.underlying50 hi0 hz hsz hby rfl (by decide) _ ((actsT s N).take k) rfl o2 ⟨_, 0, none⟩ 1 ((0, s.extract k (k + 1)) : TAct) rfl (cells_two_new _ _ _ _) (by simp [Value.oneCell']) (by rw [HL.out]; unfold maxLen; omega) (by rw [HL.out]; omega) hB2.size ?_; intro v2 w2 hown2 hg2)
                go_roundg (N - (k + 1))
                case measure => rw [HG.out]; omega
                case rel =>
                  have hb7 := below_own (B := w1.heap.size) o2 hg2 (Nat.le_refl _) hB2.size
                  exact ⟨k + 1, by omega, rfl, by rw [HTK.out]; exact hown2, hB2.trans hb7, by go_num⟩
            · have htk : (actsT s N).take k = actsT s N := List.take_of_length_le (by rw [actsT_len]; omega)
              rw [htk] at hown
              clear htk
              go_wp2_with fail
              go_ret2
              exact RLE.mk HM.out.symm (by rw [actsT_len]; omega) (hown.mono hB1.size) (bnext hB1 hbw)
        · have hc9 := UInt8.toNat_lt s[j]
          have te9 : (((s[j].toNat : Nat) : Int) == 32) = false := by
            rw [beq_eq_false_iff_ne]
            intro hh
            exact hne (UInt8.toNat_inj.1 (by show _ = 32; omega))
          have z0 : (N : Int) = (j : Int) + 1 := by omega
          have d0 : decide ((0 : Int) < (N : Int)) = true := decide_eq_true (by omega)
          have d1 : (0 : Int) < (N : Int) := by omega
          have d2 : 0 < N := by omega
          have d3 : (1 : Int) ≤ (N : Int) := by omega
          have z1 : IntKind.i64.wrap ((N : Int) - 1) = (j : Int) := by rw [show (N : Int) - 1 = j from by omega]; exact IntWalk.i64_in _ (by omega)
          have z2 : ((N : Int) - 1) = (j : Int) := by omega
          have H0 := Lib.hid h0
          have HZ0 := Lib.hid z0
          clear h0 hne z0
          go_wp2_with fail
          go_loopg [7, 8] N (fun g vs is wr => ∃ (k : Nat), k ≤ N ∧ g = N - k ∧ Own wr w1.heap.size 114 encAct 2 vs ((actsT s N).take k) ∧ Below w1.heap.size w1 wr ∧ is = .int .i64 k)
          case atStart => exact ⟨0, Nat.zero_le _, rfl, o1, hBl, rfl⟩
          case round =>
            obtain ⟨k, hkk, hg, hown, hbw, rfl⟩ := hrel
            have HG := Lib.hid hg
            have hcl : ((actsT s N).take k).length = k := by rw [List.length_take, actsT_len]; omega
            have HL := Lib.hid hcl
            clear hg hcl
            by_cases hlt : k < N
            · have htk := actsT_take s N k hlt
              have hks : k < s.size := by omega
              have hc := UInt8.toNat_lt s[k]
              
              by_cases he : s[k] = 32
              · have te : (((s[k].toNat : Nat) : Int) == 32) = true := by rw [he]; rfl
                have hact : actOf s k = (1, ⟨#[]⟩) := by unfold actOf; rw [bAt_eq s k hks, if_pos he]
                rw [hact] at htk
                have HTK := Lib.hid htk
                have o2 := hown.below (bal (Below.refl _ _) (.cells #[.int .i64 1, .string { data := #[] }] 114))
                have hB2 := bal hbw (.cells #[.int .i64 1, .string { data := #[] }] 114)
                clear htk hact he
                go_wp2_with (at_builtin; refine app_own rfl _ _ 50 rfl w1.heap.size 114 i0 _ 2 24 Try.underlying50 hi0 hz hsz hby rfl (by decide) _ ((actsT s N).take k) rfl o2 ⟨_, 0, none⟩ 1 ((1, ⟨#[]⟩) : TAct) rfl (cells_two_new _ _ _ _) (by simp [Value.oneCell']) (by rw [HL.out]; unfold maxLen; omega) (by rw [HL.out]; omega) hB2.size ?_; intro v2 w2 hown2 hg2)
                go_roundg (N - (k + 1))
                case measure => rw [HG.out]; omega
                case rel =>
                  have hb7 := below_own (B := w1.heap.size) o2 hg2 (Nat.le_refl _) hB2.size
                  exact ⟨k + 1, by omega, rfl, by rw [HTK.out]; exact hown2, hB2.trans hb7, by go_num⟩
              · have te : (((s[k].toNat : Nat) : Int) == 32) = false := by
                  rw [beq_eq_false_iff_ne]
                  intro hh
                  exact he (UInt8.toNat_inj.1 (by show _ = 32; omega))
                have hact : actOf s k = (0, s.extract k (k + 1)) := by unfold actOf; rw [bAt_eq s k hks, if_neg he]
                rw [hact] at htk
                have HTK := Lib.hid htk
                have o2 := hown.below (bal (Below.refl _ _) (.cells #[.int .i64 0, .string (s.extract k (k + 1))] 114))
                have hB2 := bal hbw (.cells #[.int .i64 0, .string (s.extract k (k + 1))] 114)
                clear htk hact he
                go_wp2_with (at_builtin; refine app_own rfl _ _ 50 rfl w1.heap.size 114 i0 _ 2 24 Try.underlying50 hi0 hz hsz hby rfl (by decide) _ ((actsT s N).take k) rfl o2 ⟨_, 0, none⟩ 1 ((0, s.extract k (k + 1)) : TAct) rfl (cells_two_new _ _ _ _) (by simp [Value.oneCell']) (by rw [HL.out]; unfold maxLen; omega) (by rw [HL.out]; omega) hB2.size ?_; intro v2 w2 hown2 hg2)
                go_roundg (N - (k + 1))
                case measure => rw [HG.out]; omega
                case rel =>
                  have hb7 := below_own (B := w1.heap.size) o2 hg2 (Nat.le_refl _) hB2.size
                  exact ⟨k + 1, by omega, rfl, by rw [HTK.out]; exact hown2, hB2.trans hb7, by go_num⟩
            · have htk : (actsT s N).take k = actsT s N := List.take_of_length_le (by rw [actsT_len]; omega)
              rw [htk] at hown
              clear htk
              go_wp2_with fail
              go_ret2
              exact RLE.mk HM.out.symm (by rw [actsT_len]; omega) (hown.mono hB1.size) (bnext hB1 hbw)
end Go.Proofs.Ytbcomfobnhekpaa
