/-
  FLetters: LettersOf, spec and impl.
-/
import Derived.Test.YteepcnfpdmmnhaaFLettersM
import Derived.Test.YteepcnfpdmmnhaaFKeysS
import Derived.Test.YteepcnfpdmmnhaaFKeysI
namespace Go.Proofs.Yteepcnfpdmmnhaa
open Go.RowKit
set_option linter.unusedVariables false
attribute [local go_sem ↓] Go.wp_at_zero Go.wp_at_succ
set_option linter.unusedSimpArgs false
set_option maxHeartbeats 1600000 in
set_option maxRecDepth 10000 in
theorem spec_LettersOf_any (A : Option Addr) (c : Nat) (ks : List TKey) (hx : ks.length ≤ 1048576) (hk : ∀ x ∈ ks, KKey x) (hcap : ks.length ≤ c) (B : Option Addr) (d : Nat) (az : List TAccent) (hy : az.length ≤ 1048576) (hm : ∀ x ∈ az, KAccent x) (w : World) (rx : Row w A encKey 3 ks) (ry : Row w B encAccent 3 az) :
    Calls Try.prog 57 #[.slice A ks.length c, .slice B az.length d] w (RSI (M_LettersOf ks az) w) := by
  by_cases h : KeysOk ks az
  case neg =>
    have HM := Lib.hid (show M_LettersOf ks az = (⟨#[]⟩, 1) by unfold M_LettersOf; rw [if_neg h])
    go_enter Try.func57, Try.ntmps57
    go_wp2_with (go_at_call 115; refine (RBb.no (l02Ok_any A c ks hx hk hcap B d az hy hm _ rx ry) h).mono ?_; rintro e w1 ⟨rfl, hb1⟩)
    go_ret2
    exact RSI.mk HM.out.symm hb1
  have HM := Lib.hid (show M_LettersOf ks az = (ascS (fun j => kF ks j || aF az j), 0) by unfold M_LettersOf; rw [if_pos h])
  have HK := Lib.hid h
  go_enter Try.func57, Try.ntmps57
  go_wp2_with (go_at_call 115; refine (RBb.yes (l02Ok_any A c ks hx hk hcap B d az hy hm _ rx ry) h).mono ?_; rintro e w1 ⟨rfl, hb1⟩)
  go_loopg [6, 7] ks.length (fun g ss is wr => ∃ k : Nat, k ≤ ks.length ∧ g = ks.length - k ∧ Below w.heap.size w wr ∧ ss = .string (ascS (kF (ks.take k))) ∧ is = .int .i64 k)
  case atStart => exact ⟨0, Nat.zero_le _, rfl, hb1, by rw [List.take_zero, show kF [] = fun _ => false from rfl, ascS_none], rfl⟩
  case round =>
    obtain ⟨k, hkk, hg, hbw, rfl, rfl⟩ := hrel
    have HG := Lib.hid hg
    clear hg hb1
    by_cases hlt : k < ks.length
    · obtain ⟨b, off, hA, hb, c0, c1, c2⟩ := (rx.below hbw).at3 (f := fun x : TKey => .string x.1) (g := fun x : TKey => .string x.2.1) (i := fun x : TKey => .bool x.2.2) hlt
      subst hA
      have hok := (HK.out.2.1 k hlt).2.1
      have HS := Lib.hid (kF_succ ks k hlt)
      obtain ⟨f, hf⟩ : ∃ f, f = kF (ks.take k) := ⟨_, rfl⟩
      rw [← hf]
      have HF := Lib.hid hf
      obtain ⟨y, hy⟩ : ∃ y, ks[k] = y := ⟨_, rfl⟩
      have hs0 := HS.out
      rw [hy] at c0 c1 c2 hok hs0
      rw [← hf] at hs0
      have HS := Lib.hid hs0
      obtain ⟨u1, u2, u3⟩ := y
      simp only at c0 c1 c2
      have s1 : u1.size = 1 := hok.1.1
      have s2 : u2.size = 1 := hok.2.1
      clear hf hy hok hs0
      have i1 : (0 : Int) ≤ (k : Int) := by omega
      have i2 : (k : Int) < (ks.length : Int) := by omega
      cases u3 with
      | true =>
        have HN := Lib.hid (show ascS (kF (ks.take (k + 1))) = ascS f from ascS_congr (fun j _ => by rw [HS.out j]; simp [keyF]))
        go_wp2_with fail
        go_roundg (ks.length - (k + 1))
        case measure => rw [HG.out]; omega
        case rel => exact ⟨k + 1, by omega, rfl, hbw, by rw [HN.out], by go_num⟩
      | false =>
        have HN := Lib.hid (show ascS (kF (ks.take (k + 1))) = ascS (fun j => (f j || b0 u1 == j) || b0 u2 == j) from ascS_congr (fun j _ => by rw [HS.out j]; simp [keyF, Bool.or_assoc]))
        go_wp2_with (first | (go_at_call_of 116 (u2); refine (l02Put_asc _ u2 s2 _).mono ?_; rintro e w6 ⟨t6, rfl, ht6, hb6⟩; subst ht6; have hB6 := bnext hB5 hb6) | (go_at_call_of 116 (u1); refine (l02Put_asc f u1 s1 _).mono ?_; rintro e w5 ⟨t5, rfl, ht5, hb5⟩; subst ht5; have d1 := (hb5.cell (p := ⟨b, _, none⟩) hb).trans c1; have hB5 := bnext hbw hb5; have hb55 := Nat.lt_of_lt_of_le hb hb5.size))
        go_roundg (ks.length - (k + 1))
        case measure => rw [HG.out]; omega
        case rel => exact ⟨k + 1, by omega, rfl, hB6, by rw [HN.out], by go_num⟩
    · have hkl : k = ks.length := by omega
      subst hkl
      rw [List.take_length]
      go_wp2_with fail
      go_loopg [6, 8] az.length (fun g ss is wr => ∃ k : Nat, k ≤ az.length ∧ g = az.length - k ∧ Below w.heap.size w wr ∧ ss = .string (ascS (fun j => kF ks j || aF (az.take k) j)) ∧ is = .int .i64 k)
      case atStart => exact ⟨0, Nat.zero_le _, rfl, hbw, by rw [ascS_congr (fun j _ => show (kF ks j || aF (az.take 0) j) = kF ks j by rw [List.take_zero, show aF [] j = false from rfl, Bool.or_false])], rfl⟩
      case round =>
        obtain ⟨k, hkk2, hg2, hbw2, rfl, rfl⟩ := hrel
        have HG2 := Lib.hid hg2
        clear hg2
        by_cases hlt : k < az.length
        · obtain ⟨b, off, hA, hb, c0, c1, c2⟩ := (ry.below hbw2).at3 (f := fun x : TAccent => .string x.1) (g := fun x : TAccent => .string x.2.1) (i := fun x : TAccent => .string x.2.2) hlt
          subst hA
          have hok := (HK.out.2.2 k hlt).1.2.2.2.1
          have hs0 := aF_succ az k hlt
          obtain ⟨f, hf⟩ : ∃ f, f = fun j => kF ks j || aF (az.take k) j := ⟨_, rfl⟩
          rw [← hf]
          have hfj : ∀ j, f j = (kF ks j || aF (az.take k) j) := fun j => by rw [hf]
          obtain ⟨y, hy⟩ : ∃ y, az[k] = y := ⟨_, rfl⟩
          rw [hy] at c0 c1 c2 hok hs0
          obtain ⟨u1, u2, u3⟩ := y
          simp only at c0 c1 c2
          have s1 : u3.size = 1 := hok
          have HN := Lib.hid (show ascS (fun j => kF ks j || aF (az.take (k + 1)) j) = ascS (fun j => f j || b0 u3 == j) from ascS_congr (fun j _ => by rw [hs0 j, hfj j, Bool.or_assoc]))
          clear hf hfj hy hok hs0
          have i1 : (0 : Int) ≤ (k : Int) := by omega
          have i2 : (k : Int) < (az.length : Int) := by omega
          go_wp2_with (go_at_call 116; refine (l02Put_asc f u3 s1 _).mono ?_; rintro e w5 ⟨t5, rfl, ht5, hb5⟩; subst ht5)
          go_roundg (az.length - (k + 1))
          case measure => rw [HG2.out]; omega
          case rel => exact ⟨k + 1, by omega, rfl, bnext hbw2 hb5, by rw [HN.out], by go_num⟩
        · have hkl : k = az.length := by omega
          subst hkl
          rw [List.take_length]
          go_wp2_with fail
          go_ret2
          exact RSI.mk HM.out.symm hbw2
theorem zerosL : Try.zeroCells171.toList = List.replicate 256 (.bool false) := by kernel_rfl
theorem zerosL_one : Try.zeroCells171.toList.all (·.oneCell') = true := by kernel_rfl
set_option maxHeartbeats 1600000 in
set_option maxRecDepth 10000 in
theorem impl_LettersOf_any (A : Option Addr) (c : Nat) (ks : List TKey) (hx : ks.length ≤ 1048576) (hk : ∀ x ∈ ks, KKey x) (hcap : ks.length ≤ c) (B : Option Addr) (d : Nat) (az : List TAccent) (hy : az.length ≤ 1048576) (hm : ∀ x ∈ az, KAccent x) (w : World) (rx : Row w A encKey 3 ks) (ry : Row w B encAccent 3 az) :
    Calls Try.prog 60 #[.slice A ks.length c, .slice B az.length d] w (RSI (M_LettersOf ks az) w) := by
  by_cases h : KeysOk ks az
  case neg =>
    have HM := Lib.hid (show M_LettersOf ks az = (⟨#[]⟩, 1) by unfold M_LettersOf; rw [if_neg h])
    go_enter Try.func60, Try.ntmps60
    go_wp2_with (go_at_call 119; refine (RBb.no (impl_ValidKeys_any A c ks hx hk hcap B d az hy hm _ rx ry) h).mono ?_; rintro e w1 ⟨rfl, hb1⟩)
    go_ret2
    exact RSI.mk HM.out.symm hb1
  have HM := Lib.hid (show M_LettersOf ks az = (ascS (fun j => kF ks j || aF az j), 0) by unfold M_LettersOf; rw [if_pos h])
  have HK := Lib.hid h
  go_enter Try.func60, Try.ntmps60
  go_wp2_with (go_at_call 119; refine (RBb.yes (impl_ValidKeys_any A c ks hx hk hcap B d az hy hm _ rx ry) h).mono ?_; rintro e w1 ⟨rfl, hb1⟩; have hst := store_zero (P := Try.prog) w1 Try.zeroCells171 171 zerosL_one; have HR := Lib.hid (rowIs_of_list w1 Try.zeroCells171 171 256 (.bool false) zerosL); have hbL := bal hb1 (.cells Try.zeroCells171 171))
  have hsz1 := hb1.size
  go_loopg [18] ks.length (fun g is wr => ∃ k : Nat, k ≤ ks.length ∧ g = ks.length - k ∧ Below w.heap.size w wr ∧ wr.rowIs w1.heap.size 171 256 (fun j => .bool (kF (ks.take k) j)) ∧ is = .int .i64 k)
  case atStart => exact ⟨0, Nat.zero_le _, rfl, hbL, HR.out.congr (fun j _ => by rw [List.take_zero]; rfl), rfl⟩
  case round =>
    obtain ⟨k, hkk, hg, hbw, hrow, rfl⟩ := hrel
    have HG := Lib.hid hg
    clear hg hst HR hbL
    by_cases hlt : k < ks.length
    · obtain ⟨b, off, hA, hb, c0, c1, c2⟩ := (rx.below hbw).at3 (f := fun x : TKey => .string x.1) (g := fun x : TKey => .string x.2.1) (i := fun x : TKey => .bool x.2.2) hlt
      subst hA
      have hok := (HK.out.2.1 k hlt).2.1
      have hs0 := kF_succ ks k hlt
      obtain ⟨f, hf⟩ : ∃ f, f = kF (ks.take k) := ⟨_, rfl⟩
      obtain ⟨y, hy⟩ : ∃ y, ks[k] = y := ⟨_, rfl⟩
      rw [hy] at c0 c1 c2 hok hs0
      rw [← hf] at hs0 hrow
      have HS := Lib.hid hs0
      obtain ⟨u1, u2, u3⟩ := y
      simp only at c0 c1 c2
      have s1 : u1.size = 1 := hok.1.1
      have s2 : u2.size = 1 := hok.2.1
      clear hf hy hok hs0
      have i1 : (0 : Int) ≤ (k : Int) := by omega
      have i2 : (k : Int) < (ks.length : Int) := by omega
      have hB2 := bal hbw (.cells #[.string u1, .string u2, .bool u3] 166)
      have hr1 := hrow.alloc (.cells #[.string u1, .string u2, .bool u3] 166)
      have hne : w1.heap.size ≠ wr.heap.size := Nat.ne_of_lt hrow.lt
      have HR1 := Lib.hid hr1
      cases u3 with
      | true =>
        have HN := Lib.hid (show ∀ j, Value.bool (f j) = Value.bool (kF (ks.take (k + 1)) j) from fun j => by rw [HS.out j]; simp [keyF])
        clear hrow hr1
        go_wp2_with fail
        go_roundg (ks.length - (k + 1))
        case measure => rw [HG.out]; omega
        case rel => exact ⟨k + 1, by omega, rfl, hB2, HR1.out.congr (fun j _ => HN.out j), by go_num⟩
      | false =>
        obtain ⟨a1, hb1', ha1⟩ := b0_byte s1
        obtain ⟨a2, hb2', ha2⟩ := b0_byte s2
        have l1 := UInt8.toNat_lt a1
        have l2 := UInt8.toNat_lt a2
        have j1 : (0 : Int) < (u1.size : Int) := by omega
        have j2 : (0 : Int) < (u2.size : Int) := by omega
        have cell1 := hr1.cell (i := a1.toNat) l1
        have frz1 := hr1.frozen a1.toNat
        have hr2 := hr1.set a1.toNat (.bool true)
        have cell2 := hr2.cell (i := a2.toNat) l2
        have frz2 := hr2.frozen a2.toNat
        have hr3 := hr2.set a2.toNat (.bool true)
        have HR3 := Lib.hid hr3
        have HN := Lib.hid (show ∀ j, (if j = a2.toNat then Value.bool true else if j = a1.toNat then Value.bool true else Value.bool (f j)) = Value.bool (kF (ks.take (k + 1)) j) from fun j => by
          rw [HS.out j]
          simp only [keyF, hb1', hb2']
          by_cases q2 : j = a2.toNat
          · rw [if_pos q2, q2]; simp
          · by_cases q1 : j = a1.toNat
            · rw [if_neg q2, if_pos q1, q1]; simp
            · have q3 : (a1.toNat == j) = false := by rw [beq_eq_false_iff_ne]; exact fun q => q1 q.symm
              have q4 : (a2.toNat == j) = false := by rw [beq_eq_false_iff_ne]; exact fun q => q2 q.symm
              rw [if_neg q2, if_neg q1, q3, q4]; simp)
        clear hrow hr1 hr2 hr3 hb1' hb2'
        go_wp2_with fail
        go_roundg (ks.length - (k + 1))
        case measure => rw [HG.out]; omega
        case rel => exact ⟨k + 1, by omega, rfl, (hB2.setCell hsz1 _).setCell hsz1 _, HR3.out.congr (fun j _ => HN.out j), by go_num⟩
    · have hkl : k = ks.length := by omega
      subst hkl
      rw [List.take_length] at hrow
      have HRow := Lib.hid hrow
      clear hrow
      go_wp2_with fail
      go_loopg [36] az.length (fun g is wr => ∃ k : Nat, k ≤ az.length ∧ g = az.length - k ∧ Below w.heap.size w wr ∧ wr.rowIs w1.heap.size 171 256 (fun j => .bool (kF ks j || aF (az.take k) j)) ∧ is = .int .i64 k)
      case atStart => exact ⟨0, Nat.zero_le _, rfl, hbw, HRow.out.congr (fun j _ => by rw [List.take_zero, show aF [] j = false from rfl, Bool.or_false]), rfl⟩
      case round =>
        obtain ⟨k, hkk2, hg2, hbw2, hrow, rfl⟩ := hrel
        have HG2 := Lib.hid hg2
        clear hg2
        by_cases hlt : k < az.length
        · obtain ⟨b, off, hA, hb, c0, c1, c2⟩ := (ry.below hbw2).at3 (f := fun x : TAccent => .string x.1) (g := fun x : TAccent => .string x.2.1) (i := fun x : TAccent => .string x.2.2) hlt
          subst hA
          have hok := (HK.out.2.2 k hlt).1.2.2.2.1
          have hs0 := aF_succ az k hlt
          obtain ⟨y, hy⟩ : ∃ y, az[k] = y := ⟨_, rfl⟩
          rw [hy] at c0 c1 c2 hok hs0
          have HS := Lib.hid hs0
          obtain ⟨u1, u2, u3⟩ := y
          simp only at c0 c1 c2
          have s1 : u3.size = 1 := hok
          clear hy hok hs0
          have i1 : (0 : Int) ≤ (k : Int) := by omega
          have i2 : (k : Int) < (az.length : Int) := by omega
          have hB2 := bal hbw2 (.cells #[.string u1, .string u2, .string u3] 168)
          have hr1 := hrow.alloc (.cells #[.string u1, .string u2, .string u3] 168)
          have hne : w1.heap.size ≠ wr.heap.size := Nat.ne_of_lt hrow.lt
          obtain ⟨a1, hb1', ha1⟩ := b0_byte s1
          have l1 := UInt8.toNat_lt a1
          have j1 : (0 : Int) < (u3.size : Int) := by omega
          have cell1 := hr1.cell (i := a1.toNat) l1
          have frz1 := hr1.frozen a1.toNat
          have HR3 := Lib.hid (hr1.set a1.toNat (.bool true))
          have HN := Lib.hid (show ∀ j, (if j = a1.toNat then Value.bool true else Value.bool (kF ks j || aF (az.take k) j)) = Value.bool (kF ks j || aF (az.take (k + 1)) j) from fun j => by
            rw [HS.out j]
            simp only [hb1']
            by_cases q1 : j = a1.toNat
            · rw [if_pos q1, q1]; simp
            · have q3 : (a1.toNat == j) = false := by rw [beq_eq_false_iff_ne]; exact fun q => q1 q.symm
              rw [if_neg q1, q3]; simp)
          clear hrow hr1 hb1'
          go_wp2_with fail
          go_roundg (az.length - (k + 1))
          case measure => rw [HG2.out]; omega
          case rel => exact ⟨k + 1, by omega, rfl, hB2.setCell hsz1 _, HR3.out.congr (fun j _ => HN.out j), by go_num⟩
        · have hkl : k = az.length := by omega
          subst hkl
          rw [List.take_length] at hrow
          have hlt9 := hrow.lt
          have HRow := Lib.hid hrow
          clear hrow
          go_wp2_with (go_at_call 120; refine (ascending_any w1.heap.size _ (fun j => kF ks j || aF az j) _ hlt9 HRow.out).mono ?_; rintro e w5 ⟨t5, rfl, ht5, hb5⟩; subst ht5)
          go_ret2
          exact RSI.mk HM.out.symm (bnext hbw2 hb5)
end Go.Proofs.Yteepcnfpdmmnhaa
