/-
  FMissing: MissingLetters, spec and impl.
-/
import Derived.Test.YteigdlgijdmfkaaFLettersM
import Derived.Test.YteigdlgijdmfkaaFPresses
import Derived.Test.YteigdlgijdmfkaaFPressesI
import Derived.Test.YteigdlgijdmfkaaFPressesC
namespace Go.Proofs.Yteigdlgijdmfkaa
open Go.RowKit
set_option linter.unusedVariables false
attribute [local go_sem ↓] Go.wp_at_zero Go.wp_at_succ
set_option maxHeartbeats 2400000 in
set_option maxRecDepth 10000 in
theorem spec_MissingLetters_any (A : Option Addr) (c : Nat) (ks : List TKey) (hx : ks.length ≤ 1048576) (hk : ∀ x ∈ ks, KKey x) (hcap : ks.length ≤ c) (B : Option Addr) (d : Nat) (az : List TAccent) (hy : az.length ≤ 1048576) (hm : ∀ x ∈ az, KAccent x) (text : ByteArray) (hs : text.size ≤ 1048576) (w : World) (rx : Row w A encKey 3 ks) (ry : Row w B encAccent 3 az) :
    Calls Try.prog 29 #[.slice A ks.length c, .slice B az.length d, .string text] w (RSI (M_MissingLetters ks az text) w) := by
  have cd := fun (w' : World) (rx : Row w' A encKey 3 ks) (ry : Row w' B encAccent 3 az) => l02Code_any A c ks hx hk hcap B d az hy hm text hs w' rx ry
  by_cases h : KeysOk ks az
  case neg =>
    have HM := Lib.hid (show M_MissingLetters ks az text = (⟨#[]⟩, 1) by unfold M_MissingLetters; rw [if_neg h])
    rw [show codeV ks az text = 1 by unfold codeV; rw [if_neg h]] at cd
    go_enter Try.func29, Try.ntmps29
    go_wp2_with (go_at_call 59; refine (cd _ rx ry).mono ?_; rintro e w1 ⟨n1, rfl, hn, hb1⟩; subst hn)
    go_ret2
    exact RSI.mk HM.out.symm hb1
  by_cases h2 : TextOk text 33 100
  case neg =>
    have HM := Lib.hid (show M_MissingLetters ks az text = (⟨#[]⟩, 2) by unfold M_MissingLetters; rw [if_pos h, if_neg h2])
    rw [show codeV ks az text = 2 by unfold codeV; rw [if_pos h, if_neg h2]] at cd
    go_enter Try.func29, Try.ntmps29
    go_wp2_with (go_at_call 59; refine (cd _ rx ry).mono ?_; rintro e w1 ⟨n1, rfl, hn, hb1⟩; subst hn)
    go_ret2
    exact RSI.mk HM.out.symm hb1
  rw [show codeV ks az text = 0 by unfold codeV; rw [if_pos h, if_pos h2]] at cd
  have h100 : text.size ≤ 100 := by have := h2.1; omega
  have HM := Lib.hid (show M_MissingLetters ks az text = (ascS (misF ks az text text.size), 0) by unfold M_MissingLetters; rw [if_pos h, if_pos h2])
  have HK := Lib.hid h
  clear h2
  go_enter Try.func29, Try.ntmps29
  go_wp2_with (go_at_call 59; refine (cd _ rx ry).mono ?_; rintro e w1 ⟨n1, rfl, hn, hb1⟩; subst hn)
  go_loopg [9, 10] text.size (fun g ss is wr => ∃ i : Nat, i ≤ text.size ∧ g = text.size - i ∧ Below w.heap.size w wr ∧ ss = .string (ascS (misF ks az text i)) ∧ is = .int .i64 i)
  case atStart => exact ⟨0, Nat.zero_le _, rfl, hb1, by rw [show misF ks az text 0 = fun _ => false from rfl, ascS_none], rfl⟩
  case round =>
    obtain ⟨i, hi, hg, hbw, rfl, rfl⟩ := hrel
    have HG := Lib.hid hg
    clear hg
    by_cases hlt : i < text.size
    · have i1 : (0 : Int) ≤ (i : Int) := by omega
      have i2 : (i : Int) < (text.size : Int) := by omega
      have i3 : (i : Int) + 1 ≤ (text.size : Int) := by omega
      have i4 : (i : Int) ≤ (i : Int) + 1 := by omega
      have hext := b0_ext text i hlt
      have ex1 := extract_one text i hlt
      have hs0 := misF_succ ks az text i
      obtain ⟨V, hV⟩ : ∃ V, V = presV ks az (text.extract i (i + 1)) := ⟨_, rfl⟩
      have pc := fun (w' : World) (r : Row w' A encKey 3 ks) (r2 : Row w' B encAccent 3 az) => l02Presses_any A c ks hx B d az HK.out (text.extract i (i + 1)) w' r r2
      rw [← hV] at pc
      simp only [← hV] at hs0
      obtain ⟨f, hf⟩ : ∃ f, f = misF ks az text i := ⟨_, rfl⟩
      rw [← hf] at ⊢ hs0
      have PC := Lib.hid pc
      have HS := Lib.hid hs0
      have HExt := Lib.hid hext
      clear pc hs0 hV hf hext
      by_cases hv : V.length = 0
      · have hv0 : ((V.length : Int) == 0) = true := by rw [hv]; rfl
        have HN := Lib.hid (show ascS (misF ks az text (i + 1)) = ascS (fun j => f j || b0 (text.extract i (i + 1)) == j) from ascS_congr (fun j _ => by rw [HS.out j, hv]; simp))
        have HV := Lib.hid hv
        clear hv
        go_wp2_with (first | (go_at_call 60; refine (PC.out _ (rx.below hbw) (ry.below hbw)).mono ?_; rintro e w5 ⟨v5, y5, rfl, hy5, hl5, ho5, hb5⟩; obtain ⟨A5, c5, rfl, r5, q5⟩ := ho5.form; subst hy5; have hB5 := hbw.trans (hb5.mono hbw.size)) | (go_at_call 64; refine (l02Put_asc f (text.extract i (i + 1)) ex1 _).mono ?_; rintro e w6 ⟨t6, rfl, ht6, hb6⟩; subst ht6; have hB6 := bnext hB5 hb6))
        go_roundg (text.size - (i + 1))
        case measure => rw [HG.out]; omega
        case rel => exact ⟨i + 1, by omega, rfl, hB6, by rw [HN.out], by go_num⟩
      · have hv0 : ((V.length : Int) == 0) = false := by rw [beq_eq_false_iff_ne]; omega
        have HN := Lib.hid (show ascS (misF ks az text (i + 1)) = ascS f from ascS_congr (fun j _ => by rw [HS.out j, show (V.length == 0) = false by rw [beq_eq_false_iff_ne]; exact hv]; simp))
        go_wp2_with (go_at_call 60; refine (PC.out _ (rx.below hbw) (ry.below hbw)).mono ?_; rintro e w5 ⟨v5, y5, rfl, hy5, hl5, ho5, hb5⟩; obtain ⟨A5, c5, rfl, r5, q5⟩ := ho5.form; subst hy5; have hB5 := hbw.trans (hb5.mono hbw.size))
        go_roundg (text.size - (i + 1))
        case measure => rw [HG.out]; omega
        case rel => exact ⟨i + 1, by omega, rfl, hB5, by rw [HN.out], by go_num⟩
    · have hfin : i = text.size := by omega
      subst hfin
      go_wp2_with fail
      go_ret2
      exact RSI.mk HM.out.symm hbw
theorem zerosN : Try.zeroCells94.toList = List.replicate 256 (.bool false) := by kernel_rfl
theorem zerosN_one : Try.zeroCells94.toList.all (·.oneCell') = true := by kernel_rfl
set_option maxHeartbeats 2400000 in
set_option maxRecDepth 10000 in
theorem impl_MissingLetters_any (A : Option Addr) (c : Nat) (ks : List TKey) (hx : ks.length ≤ 1048576) (hk : ∀ x ∈ ks, KKey x) (hcap : ks.length ≤ c) (B : Option Addr) (d : Nat) (az : List TAccent) (hy : az.length ≤ 1048576) (hm : ∀ x ∈ az, KAccent x) (text : ByteArray) (hs : text.size ≤ 1048576) (w : World) (rx : Row w A encKey 3 ks) (ry : Row w B encAccent 3 az) :
    Calls Try.prog 30 #[.slice A ks.length c, .slice B az.length d, .string text] w (RSI (M_MissingLetters ks az text) w) := by
  by_cases h : KeysOk ks az
  case neg =>
    have HM := Lib.hid (show M_MissingLetters ks az text = (⟨#[]⟩, 1) by unfold M_MissingLetters; rw [if_neg h])
    go_enter Try.func30, Try.ntmps30
    go_wp2_with (go_at_call 53; refine (RBb.no (impl_ValidKeys_any A c ks hx hk hcap B d az hy hm _ rx ry) h).mono ?_; rintro e w1 ⟨rfl, hb1⟩)
    go_ret2
    exact RSI.mk HM.out.symm hb1
  by_cases h2 : TextOk text 33 100
  case neg =>
    have HM := Lib.hid (show M_MissingLetters ks az text = (⟨#[]⟩, 2) by unfold M_MissingLetters; rw [if_pos h, if_neg h2])
    go_enter Try.func30, Try.ntmps30
    go_wp2_with (first | (go_at_call 53; refine (RBb.yes (impl_ValidKeys_any A c ks hx hk hcap B d az hy hm _ rx ry) h).mono ?_; rintro e w1 ⟨rfl, hb1⟩) | (go_at_call 61; refine (RB.no (isText_any text hs 33 100 (by omega) (by omega) _) h2).mono ?_; rintro e w2 ⟨rfl, rfl⟩))
    go_ret2
    exact RSI.mk HM.out.symm hb1
  have h100 : text.size ≤ 100 := by have := h2.1; omega
  have HM := Lib.hid (show M_MissingLetters ks az text = (ascS (misF ks az text text.size), 0) by unfold M_MissingLetters; rw [if_pos h, if_pos h2])
  have HK := Lib.hid h
  skip
  go_enter Try.func30, Try.ntmps30
  go_wp2_with (first | (go_at_call 53; refine (RBb.yes (impl_ValidKeys_any A c ks hx hk hcap B d az hy hm _ rx ry) h).mono ?_; rintro e w1 ⟨rfl, hb1⟩; have hst := store_zero (P := Try.prog) w1 Try.zeroCells94 94 zerosN_one; have HR := Lib.hid (rowIs_of_list w1 Try.zeroCells94 94 256 (.bool false) zerosN); have hbL := bal hb1 (.cells Try.zeroCells94 94)) | (go_at_call 61; refine (RB.yes (isText_any text hs 33 100 (by omega) (by omega) _) h2).mono ?_; rintro e w2 ⟨rfl, rfl⟩))
  have hsz1 := hb1.size
  go_loopg [20] text.size (fun g is wr => ∃ i : Nat, i ≤ text.size ∧ g = text.size - i ∧ Below w.heap.size w wr ∧ wr.rowIs w1.heap.size 94 256 (fun j => .bool (misF ks az text i j)) ∧ is = .int .i64 i)
  case atStart => exact ⟨0, Nat.zero_le _, rfl, hbL, HR.out.congr (fun j _ => rfl), rfl⟩
  case round =>
    obtain ⟨i, hi, hg, hbw, hrow, rfl⟩ := hrel
    have HG := Lib.hid hg
    clear hg hst HR hbL
    by_cases hlt : i < text.size
    · have i1 : (0 : Int) ≤ (i : Int) := by omega
      have i2 : (i : Int) < (text.size : Int) := by omega
      have i3 : (i : Int) + 1 ≤ (text.size : Int) := by omega
      have i4 : (i : Int) ≤ (i : Int) + 1 := by omega
      have hext := b0_ext text i hlt
      have ex1 := extract_one text i hlt
      have hs0 := misF_succ ks az text i
      obtain ⟨V, hV⟩ : ∃ V, V = presV ks az (text.extract i (i + 1)) := ⟨_, rfl⟩
      have pc := fun (w' : World) (r : Row w' A encKey 3 ks) (r2 : Row w' B encAccent 3 az) => pressesOf_any A c ks hx B d az HK.out (text.extract i (i + 1)) w' r r2
      rw [← hV] at pc
      simp only [← hV] at hs0
      obtain ⟨f, hf⟩ : ∃ f, f = misF ks az text i := ⟨_, rfl⟩
      rw [← hf] at hrow hs0
      have PC := Lib.hid pc
      have HS := Lib.hid hs0
      have HExt := Lib.hid hext
      clear pc hs0 hV hf hext
      have hlr := hrow.lt
      have HRow := Lib.hid hrow
      clear hrow
      have hx8 := UInt8.toNat_lt text[i]
      by_cases hv : V.length = 0
      · have hv0 : ((V.length : Int) == 0) = true := by rw [hv]; rfl
        have HN := Lib.hid (show ∀ j, (if j = text[i].toNat then Value.bool true else Value.bool (f j)) = Value.bool (misF ks az text (i + 1) j) from fun j => by
          rw [HS.out j, hv, HExt.out]
          by_cases q1 : j = text[i].toNat
          · rw [if_pos q1, q1]; simp
          · have q3 : (text[i].toNat == j) = false := by rw [beq_eq_false_iff_ne]; exact fun q => q1 q.symm
            rw [if_neg q1, q3]; simp)
        have HV := Lib.hid hv
        clear hv
        go_wp2_with (go_at_call 62; refine (PC.out _ (rx.below hbw) (ry.below hbw)).mono ?_; rintro e w5 ⟨v5, y5, rfl, hy5, hl5, ho5, hb5⟩; obtain ⟨A5, c5, rfl, r5, q5⟩ := ho5.form; subst hy5; have hB5 := hbw.trans (hb5.mono hbw.size); have hr5 := HRow.out.of_block (hb5.block _ hlr); have cell1 := hr5.cell (i := text[i].toNat) hx8; have frz1 := hr5.frozen text[i].toNat; have HR6 := Lib.hid (hr5.set text[i].toNat (.bool true)); clear hr5)
        go_roundg (text.size - (i + 1))
        case measure => rw [HG.out]; omega
        case rel => exact ⟨i + 1, by omega, rfl, hB5.setCell hsz1 _, HR6.out.congr (fun j _ => HN.out j), by go_num⟩
      · have hv0 : ((V.length : Int) == 0) = false := by rw [beq_eq_false_iff_ne]; omega
        have HN := Lib.hid (show ∀ j, Value.bool (f j) = Value.bool (misF ks az text (i + 1) j) from fun j => by rw [HS.out j, show (V.length == 0) = false by rw [beq_eq_false_iff_ne]; exact hv]; simp)
        go_wp2_with (go_at_call 62; refine (PC.out _ (rx.below hbw) (ry.below hbw)).mono ?_; rintro e w5 ⟨v5, y5, rfl, hy5, hl5, ho5, hb5⟩; obtain ⟨A5, c5, rfl, r5, q5⟩ := ho5.form; subst hy5; have hB5 := hbw.trans (hb5.mono hbw.size); have HR6 := Lib.hid (HRow.out.of_block (hb5.block _ hlr)))
        go_roundg (text.size - (i + 1))
        case measure => rw [HG.out]; omega
        case rel => exact ⟨i + 1, by omega, rfl, hB5, HR6.out.congr (fun j _ => HN.out j), by go_num⟩
    · have hfin : i = text.size := by omega
      subst hfin
      have hlr := hrow.lt
      have HRow := Lib.hid hrow
      clear hrow
      go_wp2_with (go_at_call 65; refine (ascending_any w1.heap.size _ (misF ks az text text.size) _ hlr HRow.out).mono ?_; rintro e w5 ⟨t5, rfl, ht5, hb5⟩; subst ht5)
      go_ret2
      exact RSI.mk HM.out.symm (bnext hbw hb5)
end Go.Proofs.Yteigdlgijdmfkaa
