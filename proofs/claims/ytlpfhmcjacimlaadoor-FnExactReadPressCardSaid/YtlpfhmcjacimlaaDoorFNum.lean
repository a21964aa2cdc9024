/-
  FNum: the number with a decimal form: spec.l01Number, spec.ReadDecimal, impl.ReadDecimal. Printed by wip/gen_num.py.
-/
import Derived.Test.YtlpfhmcjacimlaaDoorShItoa
import Derived.Test.YtlpfhmcjacimlaaDoorFIsName
namespace Go.Proofs.YtlpfhmcjacimlaaDoor
open Go.RowKit
set_option linter.unusedVariables false
attribute [local go_sem ↓] Go.wp_at_zero Go.wp_at_succ
set_option linter.unusedSimpArgs false
def numT : List UInt8 → Nat → Option Nat
  | [], n => some n
  | c :: cs, n => if 48 ≤ c.toNat ∧ c.toNat ≤ 57 then numT cs (10 * n + (c.toNat - 48)) else none
theorem numT_at (t : ByteArray) (i : Nat) (h : i < t.size) (n : Nat) : numT (t.data.toList.drop i) n = if 48 ≤ t[i].toNat ∧ t[i].toNat ≤ 57 then numT (t.data.toList.drop (i + 1)) (10 * n + (t[i].toNat - 48)) else none := by
  have hl : i < t.data.toList.length := by simpa using h
  rw [List.drop_eq_getElem_cons hl]
  rfl
theorem numT_yes (t : ByteArray) (i : Nat) (h : i < t.size) (n : Nat) (hd : digitC t[i].toNat) : numT (t.data.toList.drop i) n = numT (t.data.toList.drop (i + 1)) (10 * n + (t[i].toNat - 48)) := by
  rw [numT_at t i h n]; exact if_pos hd
theorem numT_no (t : ByteArray) (i : Nat) (h : i < t.size) (n : Nat) (hd : ¬ digitC t[i].toNat) : numT (t.data.toList.drop i) n = none := by
  rw [numT_at t i h n]; exact if_neg hd
def bodyB (s : ByteArray) : ByteArray := if h : 0 < s.size then (if s[0].toNat = 45 then s.extract 1 s.size else s) else s
noncomputable def endN (s : ByteArray) (v : Int) : Int × Bool := by
  classical exact if dstr v = s then (v, true) else (0, false)
noncomputable def tailN (s t : ByteArray) : Int × Bool :=
  if 1 ≤ t.size ∧ t.size ≤ 18 then
    match numT t.data.toList 0 with
    | none => (0, false)
    | some v => endN s (if t.size < s.size then -(v : Int) else (v : Int))
  else (0, false)
noncomputable def M_Num (s : ByteArray) : Int × Bool := tailN s (bodyB s)
theorem endN_yes {s : ByteArray} {v : Int} (h : dstr v = s) : endN s v = (v, true) := by unfold endN; rw [if_pos h]
theorem endN_no {s : ByteArray} {v : Int} (h : ¬ dstr v = s) : endN s v = (0, false) := by unfold endN; rw [if_neg h]
theorem cmp_yes {a b : ByteArray} (h : a = b) : (a.toList == b.toList) = true := by rw [h, beq_iff_eq]
theorem cmp_no {a b : ByteArray} (h : ¬ a = b) : (a.toList == b.toList) = false := by
  rw [beq_eq_false_iff_ne]
  intro hh
  rw [tl_data, tl_data] at hh
  exact h (ByteArray.ext (Array.ext' hh))
def RNB (m : Int × Bool) (w : World) (e : Ending) (w' : World) : Prop := e = .returned (.tuple #[.int .i64 m.1, .bool m.2]) ∧ Below w.heap.size w w'
theorem RNB.mk {m : Int × Bool} {a : Int} {b : Bool} {w w' : World} (h : (a, b) = m) (hb : Below w.heap.size w w') : RNB m w (.returned (.tuple #[.int .i64 a, .bool b])) w' := by
  subst h; exact ⟨rfl, hb⟩
theorem body_neg {s : ByteArray} (h : 0 < s.size) (h2 : s[0].toNat = 45) : bodyB s = s.extract 1 s.size := by unfold bodyB; rw [dif_pos h, if_pos h2]
theorem body_pos {s : ByteArray} (h : 0 < s.size) (h2 : ¬ s[0].toNat = 45) : bodyB s = s := by unfold bodyB; rw [dif_pos h, if_neg h2]
theorem body_nil {s : ByteArray} (h : s.size = 0) : bodyB s = s := by unfold bodyB; rw [dif_neg (by omega)]
theorem tail_len {s t : ByteArray} (h : ¬ (1 ≤ t.size ∧ t.size ≤ 18)) : tailN s t = (0, false) := by unfold tailN; rw [if_neg h]
theorem tail_none {s t : ByteArray} (h : numT t.data.toList 0 = none) : tailN s t = (0, false) := by
  unfold tailN
  by_cases h1 : 1 ≤ t.size ∧ t.size ≤ 18
  · rw [if_pos h1, h]
  · rw [if_neg h1]
theorem tail_some {s t : ByteArray} {v : Nat} (h1 : 1 ≤ t.size ∧ t.size ≤ 18) (h : numT t.data.toList 0 = some v) : tailN s t = endN s (if t.size < s.size then -(v : Int) else (v : Int)) := by
  unfold tailN
  rw [if_pos h1, h]
set_option maxHeartbeats 3200000 in
set_option maxRecDepth 10000 in
theorem l01Number_any (s : ByteArray) (hs : s.size ≤ 1048576) (w : World) :
    Calls Tryd.prog 22 #[.string s] w (RNB (M_Num s) w) := by
  by_cases h0 : s.size = 0
  · obtain ⟨he, he2⟩ := str_empty h0
    have HM := Lib.hid (show M_Num s = (0, false) by unfold M_Num; rw [body_nil h0]; exact tail_len (by omega))
    go_enter Tryd.func22, Tryd.ntmps22
    go_wp2
    go_ret2
    exact RNB.mk HM.out.symm (Below.refl _ _)
  have hp : 0 < s.size := by omega
  obtain ⟨he, he2⟩ := str_some hp
  by_cases h45 : s[0].toNat = 45
  · clear h0
    obtain ⟨t, ht⟩ : ∃ t, s.extract 1 s.size = t := ⟨_, rfl⟩
    have hts : t.size + 1 = s.size := by rw [← ht, ByteArray.size_extract]; omega
    have hlts : t.size < s.size := by omega
    have hM : M_Num s = tailN s t := by unfold M_Num; rw [body_neg hp h45, ht]
    have HM := Lib.hid hM
    have t45 : ((s[0].toNat : Int) == 45) = true := by rw [beq_iff_eq]; omega
    by_cases ht1 : 1 ≤ t.size
    case neg =>
      have HE := Lib.hid (tail_len (s := s) (t := t) (fun hh => ht1 hh.1))
      have hz : t.size = 0 := by omega
      clear hM
      go_enter Tryd.func22, Tryd.ntmps22
      go_wp2_with fail
      go_ret2
      exact RNB.mk (HM.out.trans HE.out).symm (Below.refl _ _)
    have tz : ((t.size : Int) == 0) = false := by rw [beq_eq_false_iff_ne]; omega
    by_cases ht18 : t.size ≤ 18
    case neg =>
      have HE := Lib.hid (tail_len (s := s) (t := t) (fun hh => ht18 hh.2))
      clear hM
      go_enter Tryd.func22, Tryd.ntmps22
      go_wp2_with fail
      go_ret2
      exact RNB.mk (HM.out.trans HE.out).symm (Below.refl _ _)
    obtain ⟨R, hR⟩ : ∃ R, numT t.data.toList 0 = R := ⟨_, rfl⟩
    have HR0 := Lib.hid hR
    clear hM
  
    go_enter Tryd.func22, Tryd.ntmps22
    go_wp2_with fail
    go_loopg [5, 6] t.size (fun g ns is wr => ∃ (i acc : Nat), i ≤ t.size ∧ g = t.size - i ∧ acc < 10 ^ i ∧ numT (t.data.toList.drop i) acc = R ∧ Below w.heap.size w wr ∧ ns = .int .i64 (acc : Int) ∧ is = .int .i64 i)
    case atStart => exact ⟨0, 0, Nat.zero_le _, rfl, by decide, HR0.out, Below.refl _ _, rfl, rfl⟩
    case round =>
      obtain ⟨i, acc, hi, hg, hacc, hgo, hbw, rfl, rfl⟩ := hrel
      have HG := Lib.hid hg
      clear hg hR
      by_cases hlt : i < t.size
      · have hc := UInt8.toNat_lt t[i]
        have hp17 : 10 ^ i ≤ 10 ^ 17 := Nat.pow_le_pow_right (by decide) (by omega)
        have i1 : (0 : Int) ≤ (i : Int) := by omega
        have i2 : (i : Int) < (t.size : Int) := by omega
        by_cases hd : digitC t[i].toNat
        · rw [numT_yes t i hlt acc hd] at hgo
          have hd2 := hd
          unfold digitC at hd2
          obtain ⟨c, hcc⟩ : ∃ c : Nat, t[i].toNat = c := ⟨_, rfl⟩
          rw [hcc] at hgo hd2
          have w1 : IntKind.i64.wrap (10 * (acc : Int)) = 10 * (acc : Int) := IntWalk.i64_in _ (by omega)
          have w2 : IntKind.u8.wrap ((c : Int) - 48) = (((c - 48 : Nat)) : Int) := by unfold IntKind.wrap; simp [IntKind.bits]; omega
          have w3 : IntKind.i64.wrap ((((c - 48 : Nat)) : Int)) = (((c - 48 : Nat)) : Int) := IntWalk.i64_in _ (by omega)
          have w4 : IntKind.i64.wrap (10 * (acc : Int) + (((c - 48 : Nat)) : Int)) = ((10 * acc + (c - 48) : Nat) : Int) := by rw [IntWalk.i64_in _ (by omega)]; omega
          have HF := Lib.hid hgo
          have HP := Lib.hid (show 10 * acc + (c - 48) < 10 ^ (i + 1) by rw [Nat.pow_succ]; omega)
          have HD := Lib.hid (RB.yes (l01Digit_any c (by rw [← hcc]; exact hc) wr) (by rw [← hcc]; exact hd))
          clear hgo hd hd2 hacc hp17
          go_wp2_with (go_at_call 25; refine HD.out.mono ?_; rintro e w5 ⟨rfl, rfl⟩)
          go_roundg (t.size - (i + 1))
          case measure => rw [HG.out]; omega
          case rel => exact ⟨i + 1, 10 * acc + (c - 48), by omega, rfl, HP.out, HF.out, hbw, by first | rfl | go_num, by go_num⟩
        · rw [numT_no t i hlt acc hd] at hgo
          have HE := Lib.hid (tail_none (s := s) (HR0.out.trans hgo.symm))
          have HD := Lib.hid (RB.no (l01Digit_any _ hc wr) hd)
          clear hgo hd hacc hp17
          go_wp2_with (go_at_call 25; refine HD.out.mono ?_; rintro e w5 ⟨rfl, rfl⟩)
          go_ret2
          exact RNB.mk (HM.out.trans HE.out).symm hbw
      · have hil : i = t.size := by omega
        subst hil
        have hdr : t.data.toList.drop t.size = [] := List.drop_of_length_le (by rw [Array.length_toList]; exact Nat.le_refl _)
        rw [hdr] at hgo
        have hR9 : R = some acc := hgo.symm
        have HR := Lib.hid (HR0.out.trans hR9)
        have hp18 : 10 ^ t.size ≤ 10 ^ 18 := Nat.pow_le_pow_right (by decide) ht18
        clear hgo hR9 hdr
        have hT := tail_some (s := s) (v := acc) ⟨ht1, ht18⟩ HR.out
        rw [if_pos hlts] at hT
        obtain ⟨V, hV⟩ : ∃ V, -(acc : Int) = V := ⟨_, rfl⟩
        rw [hV] at hT
        have hVb : I64 V := ⟨by omega, by omega⟩
        have wn : IntKind.i64.wrap (-(acc : Int)) = V := by rw [hV]; exact IntWalk.i64_in _ (by omega)
        have HT := Lib.hid hT
        by_cases hq : dstr V = s
        · have hc := cmp_yes hq
          have HE := Lib.hid (endN_yes hq)
          clear hq hT hV
          go_wp2_with (go_at_call 17; refine (l01Dec_any V hVb _).mono ?_; rintro e w5 ⟨rfl, hb5⟩)
          go_ret2
          exact RNB.mk (HM.out.trans (HT.out.trans HE.out)).symm (by first | exact bnext hbw hb5 | exact hb5)
        · have hc := cmp_no hq
          have HE := Lib.hid (endN_no hq)
          clear hq hT hV
          go_wp2_with (go_at_call 17; refine (l01Dec_any V hVb _).mono ?_; rintro e w5 ⟨rfl, hb5⟩)
          go_ret2
          exact RNB.mk (HM.out.trans (HT.out.trans HE.out)).symm (by first | exact bnext hbw hb5 | exact hb5)
  · clear h0
    obtain ⟨t, ht⟩ : ∃ t, s = t := ⟨_, rfl⟩
    have hts : t.size = s.size := by rw [ht]
    have hM : M_Num s = tailN s t := by unfold M_Num; rw [body_pos hp h45, ht]
    have HM := Lib.hid hM
    have t45 : ((s[0].toNat : Int) == 45) = false := by rw [beq_eq_false_iff_ne]; omega
    by_cases ht1 : 1 ≤ t.size
    case neg =>
      have HE := Lib.hid (tail_len (s := s) (t := t) (fun hh => ht1 hh.1))
      have hz : False := by omega
      exact hz.elim
    have tz : ((t.size : Int) == 0) = false := by rw [beq_eq_false_iff_ne]; omega
    by_cases ht18 : t.size ≤ 18
    case neg =>
      have HE := Lib.hid (tail_len (s := s) (t := t) (fun hh => ht18 hh.2))
      clear hM
      subst ht
      go_enter Tryd.func22, Tryd.ntmps22
      go_wp2_with fail
      go_ret2
      exact RNB.mk (HM.out.trans HE.out).symm (Below.refl _ _)
    obtain ⟨R, hR⟩ : ∃ R, numT t.data.toList 0 = R := ⟨_, rfl⟩
    have HR0 := Lib.hid hR
    clear hM
    subst ht
    go_enter Tryd.func22, Tryd.ntmps22
    go_wp2_with fail
    go_loopg [5, 6] s.size (fun g ns is wr => ∃ (i acc : Nat), i ≤ s.size ∧ g = s.size - i ∧ acc < 10 ^ i ∧ numT (s.data.toList.drop i) acc = R ∧ Below w.heap.size w wr ∧ ns = .int .i64 (acc : Int) ∧ is = .int .i64 i)
    case atStart => exact ⟨0, 0, Nat.zero_le _, rfl, by decide, HR0.out, Below.refl _ _, rfl, rfl⟩
    case round =>
      obtain ⟨i, acc, hi, hg, hacc, hgo, hbw, rfl, rfl⟩ := hrel
      have HG := Lib.hid hg
      clear hg hR
      by_cases hlt : i < s.size
      · have hc := UInt8.toNat_lt s[i]
        have hp17 : 10 ^ i ≤ 10 ^ 17 := Nat.pow_le_pow_right (by decide) (by omega)
        have i1 : (0 : Int) ≤ (i : Int) := by omega
        have i2 : (i : Int) < (s.size : Int) := by omega
        by_cases hd : digitC s[i].toNat
        · rw [numT_yes s i hlt acc hd] at hgo
          have hd2 := hd
          unfold digitC at hd2
          obtain ⟨c, hcc⟩ : ∃ c : Nat, s[i].toNat = c := ⟨_, rfl⟩
          rw [hcc] at hgo hd2
          have w1 : IntKind.i64.wrap (10 * (acc : Int)) = 10 * (acc : Int) := IntWalk.i64_in _ (by omega)
          have w2 : IntKind.u8.wrap ((c : Int) - 48) = (((c - 48 : Nat)) : Int) := by unfold IntKind.wrap; simp [IntKind.bits]; omega
          have w3 : IntKind.i64.wrap ((((c - 48 : Nat)) : Int)) = (((c - 48 : Nat)) : Int) := IntWalk.i64_in _ (by omega)
          have w4 : IntKind.i64.wrap (10 * (acc : Int) + (((c - 48 : Nat)) : Int)) = ((10 * acc + (c - 48) : Nat) : Int) := by rw [IntWalk.i64_in _ (by omega)]; omega
          have HF := Lib.hid hgo
          have HP := Lib.hid (show 10 * acc + (c - 48) < 10 ^ (i + 1) by rw [Nat.pow_succ]; omega)
          have HD := Lib.hid (RB.yes (l01Digit_any c (by rw [← hcc]; exact hc) wr) (by rw [← hcc]; exact hd))
          clear hgo hd hd2 hacc hp17
          go_wp2_with (go_at_call 25; refine HD.out.mono ?_; rintro e w5 ⟨rfl, rfl⟩)
          go_roundg (s.size - (i + 1))
          case measure => rw [HG.out]; omega
          case rel => exact ⟨i + 1, 10 * acc + (c - 48), by omega, rfl, HP.out, HF.out, hbw, by first | rfl | go_num, by go_num⟩
        · rw [numT_no s i hlt acc hd] at hgo
          have HE := Lib.hid (tail_none (s := s) (HR0.out.trans hgo.symm))
          have HD := Lib.hid (RB.no (l01Digit_any _ hc wr) hd)
          clear hgo hd hacc hp17
          go_wp2_with (go_at_call 25; refine HD.out.mono ?_; rintro e w5 ⟨rfl, rfl⟩)
          go_ret2
          exact RNB.mk (HM.out.trans HE.out).symm hbw
      · have hil : i = s.size := by omega
        subst hil
        have hdr : s.data.toList.drop s.size = [] := List.drop_of_length_le (by rw [Array.length_toList]; exact Nat.le_refl _)
        rw [hdr] at hgo
        have hR9 : R = some acc := hgo.symm
        have HR := Lib.hid (HR0.out.trans hR9)
        have hp18 : 10 ^ s.size ≤ 10 ^ 18 := Nat.pow_le_pow_right (by decide) ht18
        clear hgo hR9 hdr
        have hT := tail_some (s := s) (v := acc) ⟨ht1, ht18⟩ HR.out
        rw [if_neg (by omega)] at hT
        obtain ⟨V, hV⟩ : ∃ V, (acc : Int) = V := ⟨_, rfl⟩
        rw [hV] at hT
        have hVb : I64 V := ⟨by omega, by omega⟩
        have HT := Lib.hid hT
        by_cases hq : dstr V = s
        · have hc := cmp_yes hq
          have HE := Lib.hid (endN_yes hq)
          clear hq hT
          subst hV
          go_wp2_with (go_at_call 17; refine (l01Dec_any _ hVb _).mono ?_; rintro e w5 ⟨rfl, hb5⟩)
          go_ret2
          exact RNB.mk (HM.out.trans (HT.out.trans HE.out)).symm (by first | exact bnext hbw hb5 | exact hb5)
        · have hc := cmp_no hq
          have HE := Lib.hid (endN_no hq)
          clear hq hT
          subst hV
          go_wp2_with (go_at_call 17; refine (l01Dec_any _ hVb _).mono ?_; rintro e w5 ⟨rfl, hb5⟩)
          go_ret2
          exact RNB.mk (HM.out.trans (HT.out.trans HE.out)).symm (by first | exact bnext hbw hb5 | exact hb5)
theorem sRead_any (s : ByteArray) (hs : s.size ≤ 1048576) (w : World) :
    Calls Tryd.prog 12 #[.string s] w (RNB (M_Num s) w) := by
  obtain ⟨m, hm⟩ : ∃ m, M_Num s = m := ⟨_, rfl⟩
  have HC := Lib.hid (fun W => l01Number_any s hs W)
  rw [hm] at HC ⊢
  obtain ⟨m1, m2⟩ := m
  go_enter Tryd.func12, Tryd.ntmps12
  go_wp2_with (go_at_call 22; refine (HC.out _).mono ?_; rintro e w1 ⟨rfl, hb1⟩)
  go_ret2
  exact RNB.mk rfl hb1
set_option maxHeartbeats 3200000 in
set_option maxRecDepth 10000 in
theorem iRead_any (s : ByteArray) (hs : s.size ≤ 1048576) (w : World) (htab : PowTab w) :
    Calls Tryd.prog 13 #[.string s] w (RNB (M_Num s) w) := by
  by_cases h0 : s.size = 0
  · obtain ⟨he, he2⟩ := str_empty h0
    have HM := Lib.hid (show M_Num s = (0, false) by unfold M_Num; rw [body_nil h0]; exact tail_len (by omega))
    go_enter Tryd.func13, Tryd.ntmps13
    go_wp2
    go_ret2
    exact RNB.mk HM.out.symm (Below.refl _ _)
  have hp : 0 < s.size := by omega
  obtain ⟨he, he2⟩ := str_some hp
  by_cases h45 : s[0].toNat = 45
  · clear h0
    obtain ⟨t, ht⟩ : ∃ t, s.extract 1 s.size = t := ⟨_, rfl⟩
    have hts : t.size + 1 = s.size := by rw [← ht, ByteArray.size_extract]; omega
    have hlts : t.size < s.size := by omega
    have hM : M_Num s = tailN s t := by unfold M_Num; rw [body_neg hp h45, ht]
    have HM := Lib.hid hM
    have t45 : ((s[0].toNat : Int) == 45) = true := by rw [beq_iff_eq]; omega
    by_cases ht1 : 1 ≤ t.size
    case neg =>
      have HE := Lib.hid (tail_len (s := s) (t := t) (fun hh => ht1 hh.1))
      have hz : t.size = 0 := by omega
      clear hM
      go_enter Tryd.func13, Tryd.ntmps13
      go_wp2_with fail
      go_ret2
      exact RNB.mk (HM.out.trans HE.out).symm (Below.refl _ _)
    have tz : ((t.size : Int) == 0) = false := by rw [beq_eq_false_iff_ne]; omega
    by_cases ht18 : t.size ≤ 18
    case neg =>
      have HE := Lib.hid (tail_len (s := s) (t := t) (fun hh => ht18 hh.2))
      clear hM
      go_enter Tryd.func13, Tryd.ntmps13
      go_wp2_with fail
      go_ret2
      exact RNB.mk (HM.out.trans HE.out).symm (Below.refl _ _)
    obtain ⟨R, hR⟩ : ∃ R, numT t.data.toList 0 = R := ⟨_, rfl⟩
    have HR0 := Lib.hid hR
    clear hM
  
    go_enter Tryd.func13, Tryd.ntmps13
    go_wp2_with fail
    go_loopg [5, 28] t.size (fun g ns is wr => ∃ (i acc : Nat), i ≤ t.size ∧ g = t.size - i ∧ acc < 10 ^ i ∧ numT (t.data.toList.drop i) acc = R ∧ Below w.heap.size w wr ∧ ns = .int .i64 (acc : Int) ∧ is = .int .i64 i)
    case atStart => exact ⟨0, 0, Nat.zero_le _, rfl, by decide, HR0.out, Below.refl _ _, rfl, rfl⟩
    case round =>
      obtain ⟨i, acc, hi, hg, hacc, hgo, hbw, rfl, rfl⟩ := hrel
      have HG := Lib.hid hg
      clear hg hR
      by_cases hlt : i < t.size
      · have hc := UInt8.toNat_lt t[i]
        have hp17 : 10 ^ i ≤ 10 ^ 17 := Nat.pow_le_pow_right (by decide) (by omega)
        have i1 : (0 : Int) ≤ (i : Int) := by omega
        have i2 : (i : Int) < (t.size : Int) := by omega
        by_cases hd : digitC t[i].toNat
        · rw [numT_yes t i hlt acc hd] at hgo
          have hd2 := hd
          unfold digitC at hd2
          obtain ⟨c, hcc⟩ : ∃ c : Nat, t[i].toNat = c := ⟨_, rfl⟩
          rw [hcc] at hgo hd2
          have w1 : IntKind.i64.wrap (10 * (acc : Int)) = 10 * (acc : Int) := IntWalk.i64_in _ (by omega)
          have w2 : IntKind.u8.wrap ((c : Int) - 48) = (((c - 48 : Nat)) : Int) := by unfold IntKind.wrap; simp [IntKind.bits]; omega
          have w3 : IntKind.i64.wrap ((((c - 48 : Nat)) : Int)) = (((c - 48 : Nat)) : Int) := IntWalk.i64_in _ (by omega)
          have w4 : IntKind.i64.wrap (10 * (acc : Int) + (((c - 48 : Nat)) : Int)) = ((10 * acc + (c - 48) : Nat) : Int) := by rw [IntWalk.i64_in _ (by omega)]; omega
          have HF := Lib.hid hgo
          have HP := Lib.hid (show 10 * acc + (c - 48) < 10 ^ (i + 1) by rw [Nat.pow_succ]; omega)
          have HD := Lib.hid (RB.yes (isDigit_any c (by rw [← hcc]; exact hc) wr) (by rw [← hcc]; exact hd))
          clear hgo hd hd2 hacc hp17
          go_wp2_with (go_at_call 23; refine HD.out.mono ?_; rintro e w5 ⟨rfl, rfl⟩)
          go_roundg (t.size - (i + 1))
          case measure => rw [HG.out]; omega
          case rel => exact ⟨i + 1, 10 * acc + (c - 48), by omega, rfl, HP.out, HF.out, hbw, by first | rfl | go_num, by go_num⟩
        · rw [numT_no t i hlt acc hd] at hgo
          have HE := Lib.hid (tail_none (s := s) (HR0.out.trans hgo.symm))
          have HD := Lib.hid (RB.no (isDigit_any _ hc wr) hd)
          clear hgo hd hacc hp17
          go_wp2_with (go_at_call 23; refine HD.out.mono ?_; rintro e w5 ⟨rfl, rfl⟩)
          go_ret2
          exact RNB.mk (HM.out.trans HE.out).symm hbw
      · have hil : i = t.size := by omega
        subst hil
        have hdr : t.data.toList.drop t.size = [] := List.drop_of_length_le (by rw [Array.length_toList]; exact Nat.le_refl _)
        rw [hdr] at hgo
        have hR9 : R = some acc := hgo.symm
        have HR := Lib.hid (HR0.out.trans hR9)
        have hp18 : 10 ^ t.size ≤ 10 ^ 18 := Nat.pow_le_pow_right (by decide) ht18
        clear hgo hR9 hdr
        have hT := tail_some (s := s) (v := acc) ⟨ht1, ht18⟩ HR.out
        rw [if_pos hlts] at hT
        obtain ⟨V, hV⟩ : ∃ V, -(acc : Int) = V := ⟨_, rfl⟩
        rw [hV] at hT
        have hVb : I64 V := ⟨by omega, by omega⟩
        have wn : IntKind.i64.wrap (-(acc : Int)) = V := by rw [hV]; exact IntWalk.i64_in _ (by omega)
        have HT := Lib.hid hT
        by_cases hq : dstr V = s
        · have hc := cmp_yes hq
          have HE := Lib.hid (endN_yes hq)
          clear hq hT hV
          go_wp2_with (go_at_call 8; refine (iDecimal_any V hVb _ (powTab_below htab hbw)).mono ?_; rintro e w5 ⟨rfl, hb5⟩)
          go_ret2
          exact RNB.mk (HM.out.trans (HT.out.trans HE.out)).symm (by first | exact bnext hbw hb5 | exact hb5)
        · have hc := cmp_no hq
          have HE := Lib.hid (endN_no hq)
          clear hq hT hV
          go_wp2_with (go_at_call 8; refine (iDecimal_any V hVb _ (powTab_below htab hbw)).mono ?_; rintro e w5 ⟨rfl, hb5⟩)
          go_ret2
          exact RNB.mk (HM.out.trans (HT.out.trans HE.out)).symm (by first | exact bnext hbw hb5 | exact hb5)
  · clear h0
    obtain ⟨t, ht⟩ : ∃ t, s = t := ⟨_, rfl⟩
    have hts : t.size = s.size := by rw [ht]
    have hM : M_Num s = tailN s t := by unfold M_Num; rw [body_pos hp h45, ht]
    have HM := Lib.hid hM
    have t45 : ((s[0].toNat : Int) == 45) = false := by rw [beq_eq_false_iff_ne]; omega
    by_cases ht1 : 1 ≤ t.size
    case neg =>
      have HE := Lib.hid (tail_len (s := s) (t := t) (fun hh => ht1 hh.1))
      have hz : False := by omega
      exact hz.elim
    have tz : ((t.size : Int) == 0) = false := by rw [beq_eq_false_iff_ne]; omega
    by_cases ht18 : t.size ≤ 18
    case neg =>
      have HE := Lib.hid (tail_len (s := s) (t := t) (fun hh => ht18 hh.2))
      clear hM
      subst ht
      go_enter Tryd.func13, Tryd.ntmps13
      go_wp2_with fail
      go_ret2
      exact RNB.mk (HM.out.trans HE.out).symm (Below.refl _ _)
    obtain ⟨R, hR⟩ : ∃ R, numT t.data.toList 0 = R := ⟨_, rfl⟩
    have HR0 := Lib.hid hR
    clear hM
    subst ht
    go_enter Tryd.func13, Tryd.ntmps13
    go_wp2_with fail
    go_loopg [5, 28] s.size (fun g ns is wr => ∃ (i acc : Nat), i ≤ s.size ∧ g = s.size - i ∧ acc < 10 ^ i ∧ numT (s.data.toList.drop i) acc = R ∧ Below w.heap.size w wr ∧ ns = .int .i64 (acc : Int) ∧ is = .int .i64 i)
    case atStart => exact ⟨0, 0, Nat.zero_le _, rfl, by decide, HR0.out, Below.refl _ _, rfl, rfl⟩
    case round =>
      obtain ⟨i, acc, hi, hg, hacc, hgo, hbw, rfl, rfl⟩ := hrel
      have HG := Lib.hid hg
      clear hg hR
      by_cases hlt : i < s.size
      · have hc := UInt8.toNat_lt s[i]
        have hp17 : 10 ^ i ≤ 10 ^ 17 := Nat.pow_le_pow_right (by decide) (by omega)
        have i1 : (0 : Int) ≤ (i : Int) := by omega
        have i2 : (i : Int) < (s.size : Int) := by omega
        by_cases hd : digitC s[i].toNat
        · rw [numT_yes s i hlt acc hd] at hgo
          have hd2 := hd
          unfold digitC at hd2
          obtain ⟨c, hcc⟩ : ∃ c : Nat, s[i].toNat = c := ⟨_, rfl⟩
          rw [hcc] at hgo hd2
          have w1 : IntKind.i64.wrap (10 * (acc : Int)) = 10 * (acc : Int) := IntWalk.i64_in _ (by omega)
          have w2 : IntKind.u8.wrap ((c : Int) - 48) = (((c - 48 : Nat)) : Int) := by unfold IntKind.wrap; simp [IntKind.bits]; omega
          have w3 : IntKind.i64.wrap ((((c - 48 : Nat)) : Int)) = (((c - 48 : Nat)) : Int) := IntWalk.i64_in _ (by omega)
          have w4 : IntKind.i64.wrap (10 * (acc : Int) + (((c - 48 : Nat)) : Int)) = ((10 * acc + (c - 48) : Nat) : Int) := by rw [IntWalk.i64_in _ (by omega)]; omega
          have HF := Lib.hid hgo
          have HP := Lib.hid (show 10 * acc + (c - 48) < 10 ^ (i + 1) by rw [Nat.pow_succ]; omega)
          have HD := Lib.hid (RB.yes (isDigit_any c (by rw [← hcc]; exact hc) wr) (by rw [← hcc]; exact hd))
          clear hgo hd hd2 hacc hp17
          go_wp2_with (go_at_call 23; refine HD.out.mono ?_; rintro e w5 ⟨rfl, rfl⟩)
          go_roundg (s.size - (i + 1))
          case measure => rw [HG.out]; omega
          case rel => exact ⟨i + 1, 10 * acc + (c - 48), by omega, rfl, HP.out, HF.out, hbw, by first | rfl | go_num, by go_num⟩
        · rw [numT_no s i hlt acc hd] at hgo
          have HE := Lib.hid (tail_none (s := s) (HR0.out.trans hgo.symm))
          have HD := Lib.hid (RB.no (isDigit_any _ hc wr) hd)
          clear hgo hd hacc hp17
          go_wp2_with (go_at_call 23; refine HD.out.mono ?_; rintro e w5 ⟨rfl, rfl⟩)
          go_ret2
          exact RNB.mk (HM.out.trans HE.out).symm hbw
      · have hil : i = s.size := by omega
        subst hil
        have hdr : s.data.toList.drop s.size = [] := List.drop_of_length_le (by rw [Array.length_toList]; exact Nat.le_refl _)
        rw [hdr] at hgo
        have hR9 : R = some acc := hgo.symm
        have HR := Lib.hid (HR0.out.trans hR9)
        have hp18 : 10 ^ s.size ≤ 10 ^ 18 := Nat.pow_le_pow_right (by decide) ht18
        clear hgo hR9 hdr
        have hT := tail_some (s := s) (v := acc) ⟨ht1, ht18⟩ HR.out
        rw [if_neg (by omega)] at hT
        obtain ⟨V, hV⟩ : ∃ V, (acc : Int) = V := ⟨_, rfl⟩
        rw [hV] at hT
        have hVb : I64 V := ⟨by omega, by omega⟩
        have HT := Lib.hid hT
        by_cases hq : dstr V = s
        · have hc := cmp_yes hq
          have HE := Lib.hid (endN_yes hq)
          clear hq hT
          subst hV
          go_wp2_with (go_at_call 8; refine (iDecimal_any _ hVb _ (powTab_below htab hbw)).mono ?_; rintro e w5 ⟨rfl, hb5⟩)
          go_ret2
          exact RNB.mk (HM.out.trans (HT.out.trans HE.out)).symm (by first | exact bnext hbw hb5 | exact hb5)
        · have hc := cmp_no hq
          have HE := Lib.hid (endN_no hq)
          clear hq hT
          subst hV
          go_wp2_with (go_at_call 8; refine (iDecimal_any _ hVb _ (powTab_below htab hbw)).mono ?_; rintro e w5 ⟨rfl, hb5⟩)
          go_ret2
          exact RNB.mk (HM.out.trans (HT.out.trans HE.out)).symm (by first | exact bnext hbw hb5 | exact hb5)
end Go.Proofs.YtlpfhmcjacimlaaDoor
