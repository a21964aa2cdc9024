/-
  FTextOf: the text that presses type: spec.l02Print, impl.printed, TextOfPresses.
-/
import Derived.Test.YteigdlgijdmfkaaFPress
import Derived.Deep.RegionHeld3
namespace Go.Proofs.Yteigdlgijdmfkaa
open Go.RowKit
set_option linter.unusedVariables false
attribute [local go_sem ↓] Go.wp_at_zero Go.wp_at_succ
set_option linter.unusedSimpArgs false
def keyD (ks : List TKey) (p : TPress) : TKey := ks.getD p.1.toNat (⟨#[]⟩, ⟨#[]⟩, false)
def printV (ks : List TKey) (p : TPress) : ByteArray := if p.2 then (keyD ks p).2.1 else (keyD ks p).1
def mdGo (x y : ByteArray) : List TAccent → ByteArray → ByteArray
  | [], m => m
  | a :: az, m => mdGo x y az (if a.1 = x ∧ a.2.1 = y then a.2.2 else m)
def txGo (ks : List TKey) (az : List TAccent) : List TPress → ByteArray → ByteArray × Int
  | [], out => (out, 0)
  | [p], out => if (keyD ks p).2.2 = true then (⟨#[]⟩, 6) else (out ++ printV ks p, 0)
  | p :: q :: qs, out => if (keyD ks p).2.2 = true then (if (mdGo (printV ks p) (printV ks q) az ⟨#[]⟩).size = 0 then (⟨#[]⟩, 6) else txGo ks az qs (out ++ mdGo (printV ks p) (printV ks q) az ⟨#[]⟩)) else txGo ks az (q :: qs) (out ++ printV ks p)
def PressIn (ks : List TKey) (p : TPress) : Prop := 0 ≤ p.1 ∧ p.1 ≤ (ks.length : Int) - 1
def PressesIn (ks : List TKey) (xs : List TPress) : Prop := xs.length ≤ 200 ∧ ∀ i (h : i < xs.length), PressIn ks xs[i]
noncomputable instance decPressesIn (ks : List TKey) (xs : List TPress) : Decidable (PressesIn ks xs) := Classical.propDecidable _
noncomputable def M_TextOfPresses (ks : List TKey) (az : List TAccent) (xs : List TPress) : ByteArray × Int :=
  if KeysOk ks az then (if PressesIn ks xs then txGo ks az xs ⟨#[]⟩ else (⟨#[]⟩, 2)) else (⟨#[]⟩, 1)
theorem keyD_at {ks : List TKey} {p : TPress} {j : Nat} (hj : j < ks.length) (hp : p.1 = (j : Int)) : keyD ks p = ks[j] := by
  unfold keyD
  rw [hp, Int.toNat_natCast, List.getD_eq_getElem?_getD, List.getElem?_eq_getElem hj]; rfl
theorem md_step (x y : ByteArray) (az : List TAccent) (k : Nat) (h : k < az.length) (m : ByteArray) : mdGo x y (az.drop k) m = mdGo x y (az.drop (k + 1)) (if az[k].1 = x ∧ az[k].2.1 = y then az[k].2.2 else m) := by
  rw [List.drop_eq_getElem_cons h]; rfl
theorem tx_none (ks : List TKey) (az : List TAccent) (xs : List TPress) (i : Nat) (h : xs.length ≤ i) (out : ByteArray) : txGo ks az (xs.drop i) out = (out, 0) := by
  rw [List.drop_of_length_le h]; rfl
theorem tx_live (ks : List TKey) (az : List TAccent) (xs : List TPress) (i : Nat) (h : i < xs.length) (hd : ¬ (keyD ks xs[i]).2.2 = true) (out : ByteArray) : txGo ks az (xs.drop i) out = txGo ks az (xs.drop (i + 1)) (out ++ printV ks xs[i]) := by
  rw [List.drop_eq_getElem_cons h]
  cases hq : xs.drop (i + 1) with
  | nil => show txGo ks az [xs[i]] out = _; unfold txGo; rw [if_neg hd]
  | cons q qs => show txGo ks az (xs[i] :: q :: qs) out = _; rw [txGo, if_neg hd]
theorem tx_last (ks : List TKey) (az : List TAccent) (xs : List TPress) (i : Nat) (h : i + 1 = xs.length) (hd : (keyD ks (xs[i]'(by omega))).2.2 = true) (out : ByteArray) : txGo ks az (xs.drop i) out = (⟨#[]⟩, 6) := by
  rw [List.drop_eq_getElem_cons (by omega), List.drop_of_length_le (by omega)]
  unfold txGo
  rw [if_pos hd]
theorem tx_dead (ks : List TKey) (az : List TAccent) (xs : List TPress) (i : Nat) (h : i + 1 < xs.length) (hd : (keyD ks (xs[i]'(by omega))).2.2 = true) (out : ByteArray) : txGo ks az (xs.drop i) out =
    if (mdGo (printV ks (xs[i]'(by omega))) (printV ks xs[i + 1]) az ⟨#[]⟩).size = 0 then (⟨#[]⟩, 6) else txGo ks az (xs.drop (i + 1 + 1)) (out ++ mdGo (printV ks (xs[i]'(by omega))) (printV ks xs[i + 1]) az ⟨#[]⟩) := by
  rw [List.drop_eq_getElem_cons (show i < xs.length by omega), List.drop_eq_getElem_cons h, txGo, if_pos hd]
theorem tx_dead2 (ks : List TKey) (az : List TAccent) (xs : List TPress) (i i7 : Nat) (e : i + 1 = i7) (h : i7 < xs.length) (hd : (keyD ks (xs[i]'(by omega))).2.2 = true) (out : ByteArray) : txGo ks az (xs.drop i) out =
    if (mdGo (printV ks (xs[i]'(by omega))) (printV ks xs[i7]) az ⟨#[]⟩).size = 0 then (⟨#[]⟩, 6) else txGo ks az (xs.drop (i7 + 1)) (out ++ mdGo (printV ks (xs[i]'(by omega))) (printV ks xs[i7]) az ⟨#[]⟩) := by
  subst e
  exact tx_dead ks az xs i h hd out
set_option maxHeartbeats 1600000 in
theorem l02Print_any (A : Option Addr) (c : Nat) (ks : List TKey) (p : TPress) (j : Nat) (hj : j < ks.length) (hp : p.1 = (j : Int)) (w : World) (rx : Row w A encKey 3 ks) :
    Calls Try.prog 49 #[.slice A ks.length c, .agg #[.int .i64 p.1, .bool p.2]] w fun e w' => e = .returned (.string (printV ks p)) ∧ Below w.heap.size w w' := by
  obtain ⟨R, hR⟩ : ∃ R, R = printV ks p := ⟨_, rfl⟩
  rw [← hR]
  unfold printV at hR
  rw [keyD_at hj hp] at hR
  obtain ⟨p1, p2⟩ := p
  simp only at hp hR
  subst hp
  obtain ⟨b, off, hA, hb, c0, c1, c2⟩ := (rx.below (bal (Below.refl _ _) (.cells #[.int .i64 (j : Int), .bool p2] 78))).at3 (f := fun x : TKey => .string x.1) (g := fun x : TKey => .string x.2.1) (i := fun x : TKey => .bool x.2.2) hj
  subst hA
  have i1 : (0 : Int) ≤ (j : Int) := by omega
  have i2 : (j : Int) < (ks.length : Int) := by omega
  have HR := Lib.hid hR
  clear hR
  cases p2 with
  | true =>
    go_enter Try.func49, Try.ntmps49
    go_wp2
    go_ret
    exact ⟨by rw [HR.out]; rfl, bal (Below.refl _ _) _⟩
  | false =>
    go_enter Try.func49, Try.ntmps49
    go_wp2
    go_ret
    exact ⟨by rw [HR.out]; rfl, bal (Below.refl _ _) _⟩
set_option maxHeartbeats 1600000 in
theorem printed_any (A : Option Addr) (c : Nat) (ks : List TKey) (p : TPress) (j : Nat) (hj : j < ks.length) (hp : p.1 = (j : Int)) (w : World) (rx : Row w A encKey 3 ks) :
    Calls Try.prog 55 #[.slice A ks.length c, .agg #[.int .i64 p.1, .bool p.2]] w fun e w' => e = .returned (.string (printV ks p)) ∧ Below w.heap.size w w' := by
  obtain ⟨R, hR⟩ : ∃ R, R = printV ks p := ⟨_, rfl⟩
  rw [← hR]
  unfold printV at hR
  rw [keyD_at hj hp] at hR
  obtain ⟨p1, p2⟩ := p
  simp only at hp hR
  subst hp
  obtain ⟨b, off, hA, hb, c0, c1, c2⟩ := (rx.below (bal (Below.refl _ _) (.cells #[.int .i64 (j : Int), .bool p2] 78))).at3 (f := fun x : TKey => .string x.1) (g := fun x : TKey => .string x.2.1) (i := fun x : TKey => .bool x.2.2) hj
  subst hA
  have i1 : (0 : Int) ≤ (j : Int) := by omega
  have i2 : (j : Int) < (ks.length : Int) := by omega
  have HR := Lib.hid hR
  clear hR
  cases p2 with
  | true =>
    go_enter Try.func55, Try.ntmps55
    go_wp2
    go_ret
    exact ⟨by rw [HR.out]; rfl, bal (Below.refl _ _) _⟩
  | false =>
    go_enter Try.func55, Try.ntmps55
    go_wp2
    go_ret
    exact ⟨by rw [HR.out]; rfl, bal (Below.refl _ _) _⟩
set_option maxHeartbeats 12800000 in
set_option maxRecDepth 10000 in
theorem spec_TextOfPresses_any (A : Option Addr) (c : Nat) (ks : List TKey) (hx : ks.length ≤ 1048576) (hk : ∀ x ∈ ks, KKey x) (hcap : ks.length ≤ c) (B : Option Addr) (d : Nat) (az : List TAccent) (hy : az.length ≤ 1048576) (hm : ∀ x ∈ az, KAccent x)
    (C : Option Addr) (d2 : Nat) (xs : List TPress) (hzl : xs.length ≤ 1048576) (hzk : ∀ x ∈ xs, KPress x) (w : World) (rx : Row w A encKey 3 ks) (ry : Row w B encAccent 3 az) (rz : Row w C encPress 2 xs) :
    Calls Try.prog 13 #[.slice A ks.length c, .slice B az.length d, .slice C xs.length d2] w (RSI (M_TextOfPresses ks az xs) w) := by
  by_cases h : KeysOk ks az
  case neg =>
    have HM := Lib.hid (show M_TextOfPresses ks az xs = (⟨#[]⟩, 1) by unfold M_TextOfPresses; rw [if_neg h])
    go_enter Try.func13, Try.ntmps13
    go_wp2_with (go_at_call 47; refine (RBb.no (l02Ok_any A c ks hx hk hcap B d az hy hm _ rx ry) h).mono ?_; rintro e w1 ⟨rfl, hb1⟩)
    go_ret2
    exact RSI.mk HM.out.symm hb1
  have zw : IntKind.i64.wrap ((ks.length : Int) - 1) = (ks.length : Int) - 1 := IntWalk.i64_in _ (by omega)
  go_enter Try.func13, Try.ntmps13
  go_wp2_with (go_at_call 47; refine (RBb.yes (l02Ok_any A c ks hx hk hcap B d az hy hm _ rx ry) h).mono ?_; rintro e w1 ⟨rfl, hb1⟩)
  go_loopg [8] xs.length (fun g is wr => ∃ k : Nat, k ≤ xs.length ∧ g = xs.length - k ∧ (∀ i (h : i < xs.length), i < k → PressIn ks xs[i]) ∧ Below w.heap.size w wr ∧ is = .int .i64 k)
  case atStart => exact ⟨0, Nat.zero_le _, rfl, fun i h hi => absurd hi (by omega), hb1, rfl⟩
  case round =>
    obtain ⟨k, hkk, hg, hin, hbw, rfl⟩ := hrel
    have HG := Lib.hid hg
    have HIn := Lib.hid hin
    clear hg hin hb1
    by_cases hlt : k < xs.length
    · obtain ⟨b, off, hA, hb, c0, c1⟩ := (rz.below hbw).at2 (f := fun x : TPress => .int .i64 x.1) (g := fun x : TPress => .bool x.2) hlt
      subst hA
      have HPI := Lib.hid (show PressIn ks xs[k] ↔ (0 ≤ xs[k].1 ∧ xs[k].1 ≤ (ks.length : Int) - 1) from Iff.rfl)
      obtain ⟨p1, hp1⟩ : ∃ p, xs[k].1 = p := ⟨_, rfl⟩
      obtain ⟨p2, hp2⟩ : ∃ p, xs[k].2 = p := ⟨_, rfl⟩
      have hpi := HPI.out
      rw [hp1] at c0 hpi
      rw [hp2] at c1
      have HPJ := Lib.hid hpi
      clear hp1 hp2 hpi HPI
      have i1 : (0 : Int) ≤ (k : Int) := by omega
      have i2 : (k : Int) < (xs.length : Int) := by omega
      by_cases hpi : 0 ≤ p1 ∧ p1 ≤ (ks.length : Int) - 1
      case neg =>
        have HM := Lib.hid (show M_TextOfPresses ks az xs = (⟨#[]⟩, 2) by unfold M_TextOfPresses; rw [if_pos h, if_neg (fun q => hpi (HPJ.out.1 (q.2 k hlt)))])
        have HQ := Lib.hid hpi
        clear hpi
        go_wp2_with (go_at_call 48; refine (l00In_no _ _ _ HQ.out _).mono ?_; rintro e w3 ⟨rfl, rfl⟩)
        go_ret2
        exact RSI.mk HM.out.symm hbw
      have HQ := Lib.hid hpi
      clear hpi
      go_wp2_with (go_at_call 48; refine (l00In_yes _ _ _ HQ.out _).mono ?_; rintro e w3 ⟨rfl, rfl⟩)
      go_roundg (xs.length - (k + 1))
      case measure => rw [HG.out]; omega
      case rel => exact ⟨k + 1, by omega, rfl, fun i h hi => (Nat.lt_succ_iff_lt_or_eq.1 hi).elim (HIn.out i h) (fun hh => by subst hh; exact HPJ.out.2 HQ.out), hbw, by go_num⟩
    · have HAll := Lib.hid (fun i (h : i < xs.length) => HIn.out i h (by omega))
      by_cases h200 : xs.length ≤ 200
      case neg =>
        have HM := Lib.hid (show M_TextOfPresses ks az xs = (⟨#[]⟩, 2) by unfold M_TextOfPresses; rw [if_pos h, if_neg (fun q => h200 q.1)])
        have te : decide ((200 : Int) < (xs.length : Int)) = true := by simp; omega
        clear h200
        go_wp2_with fail
        go_ret2
        exact RSI.mk HM.out.symm hbw
      have te : decide ((200 : Int) < (xs.length : Int)) = false := by simp; omega
      obtain ⟨R, hR⟩ : ∃ R, R = txGo ks az xs ⟨#[]⟩ := ⟨_, rfl⟩
      have HM := Lib.hid (show M_TextOfPresses ks az xs = R by unfold M_TextOfPresses; rw [if_pos h, if_pos ⟨h200, HAll.out⟩, hR])
      have HR := Lib.hid hR
      have HK := Lib.hid h
      clear hR HIn
      go_wp2_with fail
      go_loopg [9, 10] xs.length (fun g ss is wr => ∃ (i : Nat) (s : ByteArray), i ≤ xs.length ∧ g = xs.length - i ∧ s.size ≤ i ∧ txGo ks az (xs.drop i) s = R ∧ Below w.heap.size w wr ∧ ss = .string s ∧ is = .int .i64 i)
      case atStart => exact ⟨0, ⟨#[]⟩, Nat.zero_le _, rfl, Nat.zero_le _, HR.out.symm, hbw, rfl, rfl⟩
      case round =>
        obtain ⟨i, s, hi, hg, hsz, hgo, hbw, rfl, rfl⟩ := hrel
        have HG := Lib.hid hg
        have HGo := Lib.hid hgo
        clear hg hgo
        by_cases hlt : i < xs.length
        · have hpin := HAll.out i hlt
          obtain ⟨b, off, hA, hb, c0, c1⟩ := rz.at2 (f := fun x : TPress => .int .i64 x.1) (g := fun x : TPress => .bool x.2) hlt
          subst hA
          have HL := Lib.hid (tx_live ks az xs i hlt)
          have HLa := Lib.hid (fun h1 => tx_last ks az xs i h1)
          have HDe := Lib.hid (fun i7 e h1 => tx_dead2 ks az xs i i7 e h1)
          have RX := Lib.hid rx
          obtain ⟨p, hp⟩ : ∃ p, xs[i] = p := ⟨_, rfl⟩
          have hL := HL.out
          have hLa := HLa.out
          have hDe := HDe.out
          rw [hp] at c0 c1 hpin hL
          simp only [hp] at hLa hDe
          have HL := Lib.hid hL
          have HLa := Lib.hid hLa
          have HDe := Lib.hid hDe
          clear hL hLa hDe hp
          obtain ⟨j, hj⟩ : ∃ j : Nat, p.1 = (j : Int) := ⟨p.1.toNat, by have := hpin.1; omega⟩
          have hjl : j < ks.length := by have := hpin.2; omega
          have hkd := keyD_at hjl hj
          have PC := Lib.hid (fun (w' : World) (r : Row w' A encKey 3 ks) => l02Print_any A c ks p j hjl hj w' r)
          have hps : (printV ks p).size = 1 := by
            have q := (HK.out.2.1 j hjl).2.1
            unfold printV
            rw [hkd]
            split
            · exact q.2.1
            · exact q.1.1
          obtain ⟨bk, offk, hA, hbk, _, _, e2⟩ := rx.at3 (f := fun x : TKey => .string x.1) (g := fun x : TKey => .string x.2.1) (i := fun x : TKey => .bool x.2.2) hjl
          subst hA
          rw [hj] at c0
          obtain ⟨x, hxp⟩ : ∃ x, printV ks p = x := ⟨_, rfl⟩
          have pc := PC.out
          rw [hxp] at pc hps
          rw [hj] at pc
          have hLx := HL.out
          rw [hxp] at hLx
          have hDx := HDe.out
          simp only [hxp] at hDx
          have HL := Lib.hid hLx
          have HDe := Lib.hid hDx
          have PC := Lib.hid pc
          have C0 := Lib.hid c0
          have C1 := Lib.hid c1
          have E2 := Lib.hid e2
          have HKD := Lib.hid hkd
          obtain ⟨p1, p2⟩ := p
          simp only at hj c0 c1 C0 C1
          have HJ := Lib.hid hj
          clear pc hLx hDx c0 c1 e2 hkd hxp hpin hj
          have i1 : (0 : Int) ≤ (i : Int) := by omega
          have i2 : (i : Int) < (xs.length : Int) := by omega
          have j1 : (0 : Int) ≤ (j : Int) := by omega
          have j2 : (j : Int) < (ks.length : Int) := by omega
          have d0 := (hbw.cell (p := ⟨b, _, none⟩) hb).trans C0.out
          have d1 := (hbw.cell (p := ⟨b, _, none⟩) hb).trans C1.out
          have hbb := Nat.lt_of_lt_of_le hb hbw.size
          by_cases hdd : ks[j].2.2 = true
          case neg =>
            have hd9 : ks[j].2.2 = false := Bool.eq_false_iff.2 hdd
            have e2 := E2.out
            rw [hd9] at e2
            have E3 := Lib.hid e2
            have HF := Lib.hid ((HL.out (by rw [HKD.out]; exact hdd) s).symm.trans HGo.out)
            have hsx : (s ++ x).size ≤ i + 1 := by rw [ByteArray.size_append]; omega
            have HSX := Lib.hid hsx
            clear hdd hd9 e2 hsx
            go_wp2_with (go_at_call 49; refine (PC.out _ (rx.below hbw)).mono ?_; rintro e w5 ⟨rfl, hb5⟩; have hb9 := hbw.trans (hb5.mono hbw.size); have d5 := (hb9.cell (p := ⟨b, _, none⟩) hb).trans C0.out; have e5 := (hb9.cell (p := ⟨bk, _, none⟩) hbk).trans E3.out; have hbb5 := Nat.lt_of_lt_of_le hb hb9.size; have hbk5 := Nat.lt_of_lt_of_le hbk hb9.size)
            go_roundg (xs.length - (i + 1))
            case measure => rw [HG.out]; omega
            case rel => exact ⟨i + 1, s ++ x, by omega, rfl, HSX.out, HF.out, hb9, rfl, by go_num⟩
          have e2 := E2.out
          rw [hdd] at e2
          have E3 := Lib.hid e2
          have HDD := Lib.hid (show (keyD ks (p1, p2)).2.2 = true by rw [HKD.out]; exact hdd)
          clear hdd e2
          by_cases hl1 : i + 1 = xs.length
          case pos =>
            have HF := Lib.hid ((HLa.out hl1 HDD.out s).symm.trans HGo.out)
            have hl3 : (i : Int) + 1 = (xs.length : Int) := by omega
            have tq : (((i : Int) + 1) == (xs.length : Int)) = true := by rw [hl3]; simp
            have tq2 : decide ((i : Int) + 1 < (xs.length : Int)) = false := by simp; omega
            have HL3 := Lib.hid hl3
            have HL1 := Lib.hid hl1
            clear hl1 hl3
            go_wp2_with (go_at_call 49; refine (PC.out _ (rx.below hbw)).mono ?_; rintro e w5 ⟨rfl, hb5⟩; have hb9 := hbw.trans (hb5.mono hbw.size); have d5 := (hb9.cell (p := ⟨b, _, none⟩) hb).trans C0.out; have e5 := (hb9.cell (p := ⟨bk, _, none⟩) hbk).trans E3.out; have hbb5 := Nat.lt_of_lt_of_le hb hb9.size; have hbk5 := Nat.lt_of_lt_of_le hbk hb9.size)
            go_loopg [12, 13] 0 (fun g2 ms js wr => g2 = 0 ∧ Below w.heap.size w wr ∧ ms = .string ⟨#[]⟩ ∧ js = .int .i64 0)
            case atStart => exact ⟨rfl, hb9, rfl, rfl⟩
            case round =>
              obtain ⟨hg2, hbw2, rfl, rfl⟩ := hrel
              have HG2 := Lib.hid hg2
              clear hg2
              by_cases hz : (0 : Int) < (az.length : Int)
              · have hz2 : decide ((0 : Int) < (az.length : Int)) = true := by simp; omega
                go_wp2_with fail
                go_ret2
                exact RSI.mk (by rw [HM.out, ← HF.out]) hbw2
              · have hz2 : decide ((0 : Int) < (az.length : Int)) = false := decide_eq_false hz
                go_wp2_with fail
                go_ret2
                exact RSI.mk (by rw [HM.out, ← HF.out]) hbw2
          obtain ⟨i7, hi7⟩ : ∃ i7, i + 1 = i7 := ⟨_, rfl⟩
          have hlt1 : i7 < xs.length := by omega
          have hqin := HAll.out i7 hlt1
          obtain ⟨b7, off7, hA, hb7, f0, f1⟩ := rz.at2 (f := fun x : TPress => .int .i64 x.1) (g := fun x : TPress => .bool x.2) hlt1
          simp only [Option.some.injEq, Addr.mk.injEq, and_true] at hA
          obtain ⟨rfl, rfl⟩ := hA
          have hDq := HDe.out i7 hi7 hlt1 HDD.out s
          obtain ⟨q, hq⟩ : ∃ q, xs[i7] = q := ⟨_, rfl⟩
          rw [hq] at f0 f1 hqin hDq
          obtain ⟨j7, hj7⟩ : ∃ j : Nat, q.1 = (j : Int) := ⟨q.1.toNat, by have := hqin.1; omega⟩
          have hjl7 : j7 < ks.length := by have := hqin.2; omega
          have pc7 := fun (w' : World) (r : Row w' (some ⟨bk, offk, none⟩) encKey 3 ks) => l02Print_any (some ⟨bk, offk, none⟩) c ks q j7 hjl7 hj7 w' r
          obtain ⟨y, hyp⟩ : ∃ y, printV ks q = y := ⟨_, rfl⟩
          rw [hyp] at hDq pc7
          obtain ⟨Md, hMd⟩ : ∃ Md, Md = mdGo x y az ⟨#[]⟩ := ⟨_, rfl⟩
          rw [← hMd] at hDq
          have HD7 := Lib.hid (hDq.symm.trans HGo.out)
          have HMd := Lib.hid hMd
          obtain ⟨q1, q2⟩ := q
          simp only at hj7 f0 f1 pc7
          subst hj7
          have F0 := Lib.hid f0
          have F1 := Lib.hid f1
          have PC7 := Lib.hid pc7
          have z1 : IntKind.i64.wrap ((i : Int) + 1) = (i7 : Int) := by rw [← hi7, IntWalk.i64_in _ (by omega)]; omega
          have i5 : (0 : Int) ≤ (i7 : Int) := by omega
          have i6 : (i7 : Int) < (xs.length : Int) := by omega
          have tq : ((i7 : Int) == (xs.length : Int)) = false := by rw [beq_eq_false_iff_ne]; omega
          have tq2 : decide ((i7 : Int) < (xs.length : Int)) = true := by simp; omega
          have HI7 := Lib.hid hi7
          clear hDq hMd f0 f1 pc7 hyp hq hqin hl1 hi7
          go_wp2_with (go_at_call 49; refine (PC.out _ (rx.below hbw)).mono ?_; rintro e w5 ⟨rfl, hb5⟩; have hb9 := hbw.trans (hb5.mono hbw.size); have d5 := (hb9.cell (p := ⟨b, _, none⟩) hb).trans C0.out; have e5 := (hb9.cell (p := ⟨bk, _, none⟩) hbk).trans E3.out; have hbb5 := Nat.lt_of_lt_of_le hb hb9.size; have hbk5 := Nat.lt_of_lt_of_le hbk hb9.size)
          go_loopg [12, 13] az.length (fun g2 ms js wr => ∃ (k : Nat) (m : ByteArray), k ≤ az.length ∧ g2 = az.length - k ∧ m.size ≤ 1 ∧ mdGo x y (az.drop k) m = Md ∧ Below w.heap.size w wr ∧ ms = .string m ∧ js = .int .i64 k)
          case atStart => exact ⟨0, ⟨#[]⟩, Nat.zero_le _, rfl, by show 0 ≤ 1; omega, HMd.out.symm, hb9, rfl, rfl⟩
          case round =>
            obtain ⟨k, m, hkk, hg2, hms, hmd, hbw2, rfl, rfl⟩ := hrel
            have HG2 := Lib.hid hg2
            clear hg2 d0 d1
            have g0 := (hbw2.cell (p := ⟨b, _, none⟩) hb).trans F0.out
            have g1 := (hbw2.cell (p := ⟨b, _, none⟩) hb).trans F1.out
            have hbb2 := Nat.lt_of_lt_of_le hb hbw2.size
            by_cases hlt2 : k < az.length
            · obtain ⟨b8, off8, hA, hb8, a0, a1, a2⟩ := (ry.below hbw2).at3 (f := fun x : TAccent => .string x.1) (g := fun x : TAccent => .string x.2.1) (i := fun x : TAccent => .string x.2.2) hlt2
              subst hA
              rw [md_step x y az k hlt2] at hmd
              have hm1 := (HK.out.2.2 k hlt2).1.2.2.2.1
              obtain ⟨a, ha⟩ : ∃ a, az[k] = a := ⟨_, rfl⟩
              rw [ha] at a0 a1 a2 hmd hm1
              clear ha
              obtain ⟨u1, u2, u3⟩ := a
              simp only at a0 a1 a2 hmd hm1
              have k1 : (0 : Int) ≤ (k : Int) := by omega
              have k2 : (k : Int) < (az.length : Int) := by omega
              have hzz : decide ((k : Int) < (az.length : Int)) = true := by simp; omega
              have HM1 := Lib.hid hm1
              have HMS := Lib.hid hms
              clear hm1 hms
              by_cases hu : u1 = x
              · have te := seq_true hu
                by_cases hv : u2 = y
                · have te2 := seq_true hv
                  rw [if_pos ⟨hu, hv⟩] at hmd
                  have HMD := Lib.hid hmd
                  clear hmd hu hv
                  go_wp2_with fail
                  go_region_held3 (fun w' => w'.cell? ⟨b8, off8 + k * 3, none⟩ = some (.string u1) ∧ w'.cell? ⟨b8, off8 + k * 3 + 1, none⟩ = some (.string u2) ∧ w'.cell? ⟨b, off + i7 * 2, none⟩ = some (.int .i64 (j7 : Int)) ∧ w'.cell? ⟨b, off + i7 * 2 + 1, none⟩ = some (.bool q2)) (first | exact ⟨a0, a1, g0, g1⟩ | exact ⟨((bundrew hb6).cell (p := ⟨b8, _, none⟩) hb8).trans a0, ((bundrew hb6).cell (p := ⟨b8, _, none⟩) hb8).trans a1, ((bundrew hb6).cell (p := ⟨b, _, none⟩) hbb2).trans g0, ((bundrew hb6).cell (p := ⟨b, _, none⟩) hbb2).trans g1⟩) (first | (go_at_call 49; refine (PC7.out _ (rx.below hbw2).drew).mono ?_; rintro e w6 ⟨rfl, hb6⟩))
                  have hb7 := bundrew hb6
                  have c2 := (hb7.cell (p := ⟨b8, _, none⟩) hb8).trans a2
                  have lb2 := Nat.lt_of_lt_of_le hb8 hb7.size
                  go_wp2_with fail
                  go_roundg (az.length - (k + 1))
                  case measure => rw [HG2.out]; omega
                  case rel => exact ⟨k + 1, u3, by omega, rfl, Nat.le_of_eq HM1.out, HMD.out, (hbw2.trans (hb7.mono hbw2.size)), rfl, by go_num⟩
                · have te2 := seq_false hv
                  rw [if_neg (fun q => hv q.2)] at hmd
                  have HMD := Lib.hid hmd
                  clear hmd hu hv
                  go_wp2_with fail
                  go_region_held3 (fun w' => w'.cell? ⟨b8, off8 + k * 3, none⟩ = some (.string u1) ∧ w'.cell? ⟨b8, off8 + k * 3 + 1, none⟩ = some (.string u2) ∧ w'.cell? ⟨b, off + i7 * 2, none⟩ = some (.int .i64 (j7 : Int)) ∧ w'.cell? ⟨b, off + i7 * 2 + 1, none⟩ = some (.bool q2)) (first | exact ⟨a0, a1, g0, g1⟩ | exact ⟨((bundrew hb6).cell (p := ⟨b8, _, none⟩) hb8).trans a0, ((bundrew hb6).cell (p := ⟨b8, _, none⟩) hb8).trans a1, ((bundrew hb6).cell (p := ⟨b, _, none⟩) hbb2).trans g0, ((bundrew hb6).cell (p := ⟨b, _, none⟩) hbb2).trans g1⟩) (first | (go_at_call 49; refine (PC7.out _ (rx.below hbw2).drew).mono ?_; rintro e w6 ⟨rfl, hb6⟩))
                  have hb7 := bundrew hb6
                  have c2 := (hb7.cell (p := ⟨b8, _, none⟩) hb8).trans a2
                  have lb2 := Nat.lt_of_lt_of_le hb8 hb7.size
                  go_wp2_with fail
                  go_roundg (az.length - (k + 1))
                  case measure => rw [HG2.out]; omega
                  case rel => exact ⟨k + 1, m, by omega, rfl, HMS.out, HMD.out, (hbw2.trans (hb7.mono hbw2.size)), rfl, by go_num⟩
              · have te := seq_false hu
                rw [if_neg (fun q => hu q.1)] at hmd
                have HMD := Lib.hid hmd
                clear hmd hu
                go_wp2_with fail
                go_wp2_with (go_quiet (fail))
                go_roundg (az.length - (k + 1))
                case measure => rw [HG2.out]; omega
                case rel => exact ⟨k + 1, m, by omega, rfl, HMS.out, HMD.out, (bdrewN hbw2 _), rfl, by go_num⟩
            · have hzz : decide ((k : Int) < (az.length : Int)) = false := by simp; omega
              have hmd2 : m = Md := by rw [← hmd, List.drop_of_length_le (by omega)]; rfl
              subst hmd2
              by_cases h0 : m.size = 0
              · obtain ⟨t1, t2⟩ := str_empty h0
                have hd7 := HD7.out
                rw [if_pos h0] at hd7
                have HD8 := Lib.hid hd7
                clear hd7 hmd
                go_wp2_with fail
                go_ret2
                exact RSI.mk (by rw [HM.out, ← HD8.out]) hbw2
              · obtain ⟨t1, t2⟩ := str_some (show 0 < m.size by omega)
                have hd7 := HD7.out
                rw [if_neg h0] at hd7
                have HD8 := Lib.hid hd7
                have hsz2 : (s ++ m).size ≤ i7 + 1 := by rw [ByteArray.size_append]; have := HI7.out; omega
                clear hd7 hmd
                go_wp2_with fail
                go_roundg (xs.length - (i7 + 1))
                case measure => rw [HG.out]; have := HI7.out; omega
                case rel => exact ⟨i7 + 1, s ++ m, by omega, rfl, hsz2, HD8.out, hbw2, rfl, by go_num⟩
        · have HF := Lib.hid ((tx_none ks az xs i (by omega) s).symm.trans HGo.out)
          go_wp2_with fail
          go_ret2
          exact RSI.mk (by rw [HM.out, ← HF.out]) hbw
set_option maxHeartbeats 12800000 in
set_option maxRecDepth 10000 in
theorem impl_TextOfPresses_any (A : Option Addr) (c : Nat) (ks : List TKey) (hx : ks.length ≤ 1048576) (hk : ∀ x ∈ ks, KKey x) (hcap : ks.length ≤ c) (B : Option Addr) (d : Nat) (az : List TAccent) (hy : az.length ≤ 1048576) (hm : ∀ x ∈ az, KAccent x)
    (C : Option Addr) (d2 : Nat) (xs : List TPress) (hzl : xs.length ≤ 1048576) (hzk : ∀ x ∈ xs, KPress x) (w : World) (rx : Row w A encKey 3 ks) (ry : Row w B encAccent 3 az) (rz : Row w C encPress 2 xs) :
    Calls Try.prog 17 #[.slice A ks.length c, .slice B az.length d, .slice C xs.length d2] w (RSI (M_TextOfPresses ks az xs) w) := by
  by_cases h : KeysOk ks az
  case neg =>
    have HM := Lib.hid (show M_TextOfPresses ks az xs = (⟨#[]⟩, 1) by unfold M_TextOfPresses; rw [if_neg h])
    go_enter Try.func17, Try.ntmps17
    go_wp2_with (go_at_call 53; refine (RBb.no (impl_ValidKeys_any A c ks hx hk hcap B d az hy hm _ rx ry) h).mono ?_; rintro e w1 ⟨rfl, hb1⟩)
    go_ret2
    exact RSI.mk HM.out.symm hb1
  by_cases h200 : xs.length ≤ 200
  case neg =>
    have HM := Lib.hid (show M_TextOfPresses ks az xs = (⟨#[]⟩, 2) by unfold M_TextOfPresses; rw [if_pos h, if_neg (fun q => h200 q.1)])
    have te : decide ((200 : Int) < (xs.length : Int)) = true := by simp; omega
    clear h200
    go_enter Try.func17, Try.ntmps17
    go_wp2_with (go_at_call 53; refine (RBb.yes (impl_ValidKeys_any A c ks hx hk hcap B d az hy hm _ rx ry) h).mono ?_; rintro e w1 ⟨rfl, hb1⟩)
    go_ret2
    exact RSI.mk HM.out.symm hb1
  have te : decide ((200 : Int) < (xs.length : Int)) = false := by simp; omega
  have zw : IntKind.i64.wrap ((ks.length : Int) - 1) = (ks.length : Int) - 1 := IntWalk.i64_in _ (by omega)
  go_enter Try.func17, Try.ntmps17
  go_wp2_with (go_at_call 53; refine (RBb.yes (impl_ValidKeys_any A c ks hx hk hcap B d az hy hm _ rx ry) h).mono ?_; rintro e w1 ⟨rfl, hb1⟩)
  go_loopg [25] xs.length (fun g is wr => ∃ k : Nat, k ≤ xs.length ∧ g = xs.length - k ∧ (∀ i (h : i < xs.length), i < k → PressIn ks xs[i]) ∧ Below w.heap.size w wr ∧ is = .int .i64 k)
  case atStart => exact ⟨0, Nat.zero_le _, rfl, fun i h hi => absurd hi (by omega), hb1, rfl⟩
  case round =>
    obtain ⟨k, hkk, hg, hin, hbw, rfl⟩ := hrel
    have HG := Lib.hid hg
    have HIn := Lib.hid hin
    clear hg hin hb1
    by_cases hlt : k < xs.length
    · obtain ⟨b, off, hA, hb, c0, c1⟩ := (rz.below hbw).at2 (f := fun x : TPress => .int .i64 x.1) (g := fun x : TPress => .bool x.2) hlt
      subst hA
      have HPI := Lib.hid (show PressIn ks xs[k] ↔ (0 ≤ xs[k].1 ∧ xs[k].1 ≤ (ks.length : Int) - 1) from Iff.rfl)
      obtain ⟨p1, hp1⟩ : ∃ p, xs[k].1 = p := ⟨_, rfl⟩
      obtain ⟨p2, hp2⟩ : ∃ p, xs[k].2 = p := ⟨_, rfl⟩
      have hpi := HPI.out
      rw [hp1] at c0 hpi
      rw [hp2] at c1
      have HPJ := Lib.hid hpi
      clear hp1 hp2 hpi HPI
      have i1 : (0 : Int) ≤ (k : Int) := by omega
      have i2 : (k : Int) < (xs.length : Int) := by omega
      by_cases hpi : 0 ≤ p1 ∧ p1 ≤ (ks.length : Int) - 1
      case neg =>
        have HM := Lib.hid (show M_TextOfPresses ks az xs = (⟨#[]⟩, 2) by unfold M_TextOfPresses; rw [if_pos h, if_neg (fun q => hpi (HPJ.out.1 (q.2 k hlt)))])
        have HQ := Lib.hid hpi
        clear hpi
        go_wp2_with (go_at_call 54; refine (between_no _ _ _ HQ.out _).mono ?_; rintro e w3 ⟨rfl, rfl⟩)
        go_ret2
        exact RSI.mk HM.out.symm (bal hbw _)
      have HQ := Lib.hid hpi
      clear hpi
      go_wp2_with (go_at_call 54; refine (between_yes _ _ _ HQ.out _).mono ?_; rintro e w3 ⟨rfl, rfl⟩)
      go_roundg (xs.length - (k + 1))
      case measure => rw [HG.out]; omega
      case rel => exact ⟨k + 1, by omega, rfl, fun i h hi => (Nat.lt_succ_iff_lt_or_eq.1 hi).elim (HIn.out i h) (fun hh => by subst hh; exact HPJ.out.2 HQ.out), bal hbw _, by go_num⟩
    · have HAll := Lib.hid (fun i (h : i < xs.length) => HIn.out i h (by omega))
      obtain ⟨R, hR⟩ : ∃ R, R = txGo ks az xs ⟨#[]⟩ := ⟨_, rfl⟩
      have HM := Lib.hid (show M_TextOfPresses ks az xs = R by unfold M_TextOfPresses; rw [if_pos h, if_pos ⟨h200, HAll.out⟩, hR])
      have HR := Lib.hid hR
      have HK := Lib.hid h
      clear hR HIn
      go_wp2_with fail
      go_loopg [10, 11] xs.length (fun g ss is wr => ∃ (i : Nat) (s : ByteArray), i ≤ xs.length ∧ g = xs.length - i ∧ s.size ≤ i ∧ txGo ks az (xs.drop i) s = R ∧ Below w.heap.size w wr ∧ ss = .string s ∧ is = .int .i64 i)
      case atStart => exact ⟨0, ⟨#[]⟩, Nat.zero_le _, rfl, Nat.zero_le _, HR.out.symm, hbw, rfl, rfl⟩
      case round =>
        obtain ⟨i, s, hi, hg, hsz, hgo, hbw, rfl, rfl⟩ := hrel
        have HG := Lib.hid hg
        have HGo := Lib.hid hgo
        clear hg hgo
        by_cases hlt : i < xs.length
        · have hpin := HAll.out i hlt
          obtain ⟨b, off, hA, hb, c0, c1⟩ := rz.at2 (f := fun x : TPress => .int .i64 x.1) (g := fun x : TPress => .bool x.2) hlt
          subst hA
          have HL := Lib.hid (tx_live ks az xs i hlt)
          have HLa := Lib.hid (fun h1 => tx_last ks az xs i h1)
          have HDe := Lib.hid (fun i7 e h1 => tx_dead2 ks az xs i i7 e h1)
          have RX := Lib.hid rx
          obtain ⟨p, hp⟩ : ∃ p, xs[i] = p := ⟨_, rfl⟩
          have hL := HL.out
          have hLa := HLa.out
          have hDe := HDe.out
          rw [hp] at c0 c1 hpin hL
          simp only [hp] at hLa hDe
          have HL := Lib.hid hL
          have HLa := Lib.hid hLa
          have HDe := Lib.hid hDe
          clear hL hLa hDe hp
          obtain ⟨j, hj⟩ : ∃ j : Nat, p.1 = (j : Int) := ⟨p.1.toNat, by have := hpin.1; omega⟩
          have hjl : j < ks.length := by have := hpin.2; omega
          have hkd := keyD_at hjl hj
          have PC := Lib.hid (fun (w' : World) (r : Row w' A encKey 3 ks) => printed_any A c ks p j hjl hj w' r)
          have hps : (printV ks p).size = 1 := by
            have q := (HK.out.2.1 j hjl).2.1
            unfold printV
            rw [hkd]
            split
            · exact q.2.1
            · exact q.1.1
          obtain ⟨bk, offk, hA, hbk, _, _, e2⟩ := rx.at3 (f := fun x : TKey => .string x.1) (g := fun x : TKey => .string x.2.1) (i := fun x : TKey => .bool x.2.2) hjl
          subst hA
          rw [hj] at c0
          obtain ⟨x, hxp⟩ : ∃ x, printV ks p = x := ⟨_, rfl⟩
          have pc := PC.out
          rw [hxp] at pc hps
          rw [hj] at pc
          have hLx := HL.out
          rw [hxp] at hLx
          have hDx := HDe.out
          simp only [hxp] at hDx
          have HL := Lib.hid hLx
          have HDe := Lib.hid hDx
          have PC := Lib.hid pc
          have C0 := Lib.hid c0
          have C1 := Lib.hid c1
          have E2 := Lib.hid e2
          have HKD := Lib.hid hkd
          obtain ⟨p1, p2⟩ := p
          simp only at hj c0 c1 C0 C1
          have HJ := Lib.hid hj
          clear pc hLx hDx c0 c1 e2 hkd hxp hpin hj
          have i1 : (0 : Int) ≤ (i : Int) := by omega
          have i2 : (i : Int) < (xs.length : Int) := by omega
          have j1 : (0 : Int) ≤ (j : Int) := by omega
          have j2 : (j : Int) < (ks.length : Int) := by omega
          have d0 := (hbw.cell (p := ⟨b, _, none⟩) hb).trans C0.out
          have d1 := (hbw.cell (p := ⟨b, _, none⟩) hb).trans C1.out
          have hbb := Nat.lt_of_lt_of_le hb hbw.size
          by_cases hdd : ks[j].2.2 = true
          case neg =>
            have hd9 : ks[j].2.2 = false := Bool.eq_false_iff.2 hdd
            have e2 := E2.out
            rw [hd9] at e2
            have E3 := Lib.hid e2
            have HF := Lib.hid ((HL.out (by rw [HKD.out]; exact hdd) s).symm.trans HGo.out)
            have hsx : (s ++ x).size ≤ i + 1 := by rw [ByteArray.size_append]; omega
            have HSX := Lib.hid hsx
            clear hdd hd9 e2 hsx
            go_wp2_with (go_at_call 55; refine (PC.out _ (rx.below hbw)).mono ?_; rintro e w5 ⟨rfl, hb5⟩; have hb9 := hbw.trans (hb5.mono hbw.size); have d5 := (hb9.cell (p := ⟨b, _, none⟩) hb).trans C0.out; have e5 := (hb9.cell (p := ⟨bk, _, none⟩) hbk).trans E3.out; have hbb5 := Nat.lt_of_lt_of_le hb hb9.size; have hbk5 := Nat.lt_of_lt_of_le hbk hb9.size)
            go_roundg (xs.length - (i + 1))
            case measure => rw [HG.out]; omega
            case rel => exact ⟨i + 1, s ++ x, by omega, rfl, HSX.out, HF.out, hb9, rfl, by go_num⟩
          have e2 := E2.out
          rw [hdd] at e2
          have E3 := Lib.hid e2
          have HDD := Lib.hid (show (keyD ks (p1, p2)).2.2 = true by rw [HKD.out]; exact hdd)
          clear hdd e2
          by_cases hl1 : i + 1 = xs.length
          case pos =>
            have HF := Lib.hid ((HLa.out hl1 HDD.out s).symm.trans HGo.out)
            have hl3 : (i : Int) + 1 = (xs.length : Int) := by omega
            have tq : (((i : Int) + 1) == (xs.length : Int)) = true := by rw [hl3]; simp
            have tq2 : decide ((i : Int) + 1 < (xs.length : Int)) = false := by simp; omega
            have HL3 := Lib.hid hl3
            have HL1 := Lib.hid hl1
            clear hl1 hl3
            go_wp2_with (go_at_call 55; refine (PC.out _ (rx.below hbw)).mono ?_; rintro e w5 ⟨rfl, hb5⟩; have hb9 := hbw.trans (hb5.mono hbw.size); have d5 := (hb9.cell (p := ⟨b, _, none⟩) hb).trans C0.out; have e5 := (hb9.cell (p := ⟨bk, _, none⟩) hbk).trans E3.out; have hbb5 := Nat.lt_of_lt_of_le hb hb9.size; have hbk5 := Nat.lt_of_lt_of_le hbk hb9.size)
            go_ret2
            exact RSI.mk (by rw [HM.out, ← HF.out]) hb9
          obtain ⟨i7, hi7⟩ : ∃ i7, i + 1 = i7 := ⟨_, rfl⟩
          have hlt1 : i7 < xs.length := by omega
          have hqin := HAll.out i7 hlt1
          obtain ⟨b7, off7, hA, hb7, f0, f1⟩ := rz.at2 (f := fun x : TPress => .int .i64 x.1) (g := fun x : TPress => .bool x.2) hlt1
          simp only [Option.some.injEq, Addr.mk.injEq, and_true] at hA
          obtain ⟨rfl, rfl⟩ := hA
          have hDq := HDe.out i7 hi7 hlt1 HDD.out s
          obtain ⟨q, hq⟩ : ∃ q, xs[i7] = q := ⟨_, rfl⟩
          rw [hq] at f0 f1 hqin hDq
          obtain ⟨j7, hj7⟩ : ∃ j : Nat, q.1 = (j : Int) := ⟨q.1.toNat, by have := hqin.1; omega⟩
          have hjl7 : j7 < ks.length := by have := hqin.2; omega
          have pc7 := fun (w' : World) (r : Row w' (some ⟨bk, offk, none⟩) encKey 3 ks) => printed_any (some ⟨bk, offk, none⟩) c ks q j7 hjl7 hj7 w' r
          obtain ⟨y, hyp⟩ : ∃ y, printV ks q = y := ⟨_, rfl⟩
          rw [hyp] at hDq pc7
          obtain ⟨Md, hMd⟩ : ∃ Md, Md = mdGo x y az ⟨#[]⟩ := ⟨_, rfl⟩
          rw [← hMd] at hDq
          have HD7 := Lib.hid (hDq.symm.trans HGo.out)
          have HMd := Lib.hid hMd
          obtain ⟨q1, q2⟩ := q
          simp only at hj7 f0 f1 pc7
          subst hj7
          have F0 := Lib.hid f0
          have F1 := Lib.hid f1
          have PC7 := Lib.hid pc7
          have z1 : IntKind.i64.wrap ((i : Int) + 1) = (i7 : Int) := by rw [← hi7, IntWalk.i64_in _ (by omega)]; omega
          have i5 : (0 : Int) ≤ (i7 : Int) := by omega
          have i6 : (i7 : Int) < (xs.length : Int) := by omega
          have tq : ((i7 : Int) == (xs.length : Int)) = false := by rw [beq_eq_false_iff_ne]; omega
          have tq2 : decide ((i7 : Int) < (xs.length : Int)) = true := by simp; omega
          have HI7 := Lib.hid hi7
          clear hDq hMd f0 f1 pc7 hyp hq hqin hl1 hi7
          go_wp2_with (go_at_call 55; refine (PC.out _ (rx.below hbw)).mono ?_; rintro e w5 ⟨rfl, hb5⟩; have hb9 := hbw.trans (hb5.mono hbw.size); have d5 := (hb9.cell (p := ⟨b, _, none⟩) hb).trans C0.out; have e5 := (hb9.cell (p := ⟨bk, _, none⟩) hbk).trans E3.out; have hbb5 := Nat.lt_of_lt_of_le hb hb9.size; have hbk5 := Nat.lt_of_lt_of_le hbk hb9.size)
          go_loopg [13, 69] az.length (fun g2 ms js wr => ∃ (k : Nat) (m : ByteArray), k ≤ az.length ∧ g2 = az.length - k ∧ m.size ≤ 1 ∧ mdGo x y (az.drop k) m = Md ∧ Below w.heap.size w wr ∧ ms = .string m ∧ js = .int .i64 k)
          case atStart => exact ⟨0, ⟨#[]⟩, Nat.zero_le _, rfl, by show 0 ≤ 1; omega, HMd.out.symm, hb9, rfl, rfl⟩
          case round =>
            obtain ⟨k, m, hkk, hg2, hms, hmd, hbw2, rfl, rfl⟩ := hrel
            have HG2 := Lib.hid hg2
            clear hg2 d0 d1
            have g0 := (hbw2.cell (p := ⟨b, _, none⟩) hb).trans F0.out
            have g1 := (hbw2.cell (p := ⟨b, _, none⟩) hb).trans F1.out
            have hbb2 := Nat.lt_of_lt_of_le hb hbw2.size
            by_cases hlt2 : k < az.length
            · obtain ⟨b8, off8, hA, hb8, a0, a1, a2⟩ := (ry.below hbw2).at3 (f := fun x : TAccent => .string x.1) (g := fun x : TAccent => .string x.2.1) (i := fun x : TAccent => .string x.2.2) hlt2
              subst hA
              rw [md_step x y az k hlt2] at hmd
              have hm1 := (HK.out.2.2 k hlt2).1.2.2.2.1
              obtain ⟨a, ha⟩ : ∃ a, az[k] = a := ⟨_, rfl⟩
              rw [ha] at a0 a1 a2 hmd hm1
              clear ha
              obtain ⟨u1, u2, u3⟩ := a
              simp only at a0 a1 a2 hmd hm1
              have k1 : (0 : Int) ≤ (k : Int) := by omega
              have k2 : (k : Int) < (az.length : Int) := by omega
              have hzz : decide ((k : Int) < (az.length : Int)) = true := by simp; omega
              have HM1 := Lib.hid hm1
              have HMS := Lib.hid hms
              clear hm1 hms
              obtain ⟨W1, hW1⟩ : ∃ W1, W1 = wr.alloc (.cells #[.string u1, .string u2, .string u3] 81) := ⟨_, rfl⟩
              have n0 : W1.cell? ⟨wr.heap.size, 0, none⟩ = some (.string u1) := by rw [hW1]; simp [go_sem]
              have n1 : W1.cell? ⟨wr.heap.size, 1, none⟩ = some (.string u2) := by rw [hW1]; simp [go_sem]
              have n2 : W1.cell? ⟨wr.heap.size, 2, none⟩ = some (.string u3) := by rw [hW1]; simp [go_sem]
              have nlt : wr.heap.size < W1.heap.size := by rw [hW1]; simp
              have hB1 : Below w.heap.size w W1 := by rw [hW1]; exact bal hbw2 _
              have h0 := (hB1.cell (p := ⟨b, _, none⟩) hb).trans F0.out
              have h1 := (hB1.cell (p := ⟨b, _, none⟩) hb).trans F1.out
              have hbb3 := Nat.lt_of_lt_of_le hb hB1.size
              have HW1 := Lib.hid hW1
              clear hW1
              by_cases hu : u1 = x
              · have te := seq_true hu
                by_cases hv : u2 = y
                · have te2 := seq_true hv
                  rw [if_pos ⟨hu, hv⟩] at hmd
                  have HMD := Lib.hid hmd
                  clear hmd hu hv
                  go_wp2_with fail
                  rw [← HW1.out]
                  go_wp2_with fail
                  go_region_held3 (fun w' => w'.cell? ⟨wr.heap.size, 0, none⟩ = some (.string u1) ∧ w'.cell? ⟨wr.heap.size, 1, none⟩ = some (.string u2) ∧ w'.cell? ⟨b, off + i7 * 2, none⟩ = some (.int .i64 (j7 : Int)) ∧ w'.cell? ⟨b, off + i7 * 2 + 1, none⟩ = some (.bool q2)) (first | exact ⟨n0, n1, h0, h1⟩ | exact ⟨((bundrew hb6).cell (p := ⟨wr.heap.size, _, none⟩) nlt).trans n0, ((bundrew hb6).cell (p := ⟨wr.heap.size, _, none⟩) nlt).trans n1, ((bundrew hb6).cell (p := ⟨b, _, none⟩) hbb3).trans h0, ((bundrew hb6).cell (p := ⟨b, _, none⟩) hbb3).trans h1⟩) (first | (go_at_call 55; refine (PC7.out _ (rx.below hB1).drew).mono ?_; rintro e w6 ⟨rfl, hb6⟩))
                  have hb7 := bundrew hb6
                  have c2 := (hb7.cell (p := ⟨wr.heap.size, _, none⟩) nlt).trans n2
                  have lb2 := Nat.lt_of_lt_of_le nlt hb7.size
                  go_wp2_with fail
                  go_roundg (az.length - (k + 1))
                  case measure => rw [HG2.out]; omega
                  case rel => exact ⟨k + 1, u3, by omega, rfl, Nat.le_of_eq HM1.out, HMD.out, (hB1.trans (hb7.mono hB1.size)), rfl, by go_num⟩
                · have te2 := seq_false hv
                  rw [if_neg (fun q => hv q.2)] at hmd
                  have HMD := Lib.hid hmd
                  clear hmd hu hv
                  go_wp2_with fail
                  rw [← HW1.out]
                  go_wp2_with fail
                  go_region_held3 (fun w' => w'.cell? ⟨wr.heap.size, 0, none⟩ = some (.string u1) ∧ w'.cell? ⟨wr.heap.size, 1, none⟩ = some (.string u2) ∧ w'.cell? ⟨b, off + i7 * 2, none⟩ = some (.int .i64 (j7 : Int)) ∧ w'.cell? ⟨b, off + i7 * 2 + 1, none⟩ = some (.bool q2)) (first | exact ⟨n0, n1, h0, h1⟩ | exact ⟨((bundrew hb6).cell (p := ⟨wr.heap.size, _, none⟩) nlt).trans n0, ((bundrew hb6).cell (p := ⟨wr.heap.size, _, none⟩) nlt).trans n1, ((bundrew hb6).cell (p := ⟨b, _, none⟩) hbb3).trans h0, ((bundrew hb6).cell (p := ⟨b, _, none⟩) hbb3).trans h1⟩) (first | (go_at_call 55; refine (PC7.out _ (rx.below hB1).drew).mono ?_; rintro e w6 ⟨rfl, hb6⟩))
                  have hb7 := bundrew hb6
                  have c2 := (hb7.cell (p := ⟨wr.heap.size, _, none⟩) nlt).trans n2
                  have lb2 := Nat.lt_of_lt_of_le nlt hb7.size
                  go_wp2_with fail
                  go_roundg (az.length - (k + 1))
                  case measure => rw [HG2.out]; omega
                  case rel => exact ⟨k + 1, m, by omega, rfl, HMS.out, HMD.out, (hB1.trans (hb7.mono hB1.size)), rfl, by go_num⟩
              · have te := seq_false hu
                rw [if_neg (fun q => hu q.1)] at hmd
                have HMD := Lib.hid hmd
                clear hmd hu
                go_wp2_with fail
                rw [← HW1.out]
                go_wp2_with (go_quiet (fail))
                go_roundg (az.length - (k + 1))
                case measure => rw [HG2.out]; omega
                case rel => exact ⟨k + 1, m, by omega, rfl, HMS.out, HMD.out, (bdrewN hB1 _), rfl, by go_num⟩
            · have hzz : decide ((k : Int) < (az.length : Int)) = false := by simp; omega
              have hmd2 : m = Md := by rw [← hmd, List.drop_of_length_le (by omega)]; rfl
              subst hmd2
              by_cases h0 : m.size = 0
              · obtain ⟨t1, t2⟩ := str_empty h0
                have hd7 := HD7.out
                rw [if_pos h0] at hd7
                have HD8 := Lib.hid hd7
                clear hd7 hmd
                go_wp2_with fail
                go_ret2
                exact RSI.mk (by rw [HM.out, ← HD8.out]) hbw2
              · obtain ⟨t1, t2⟩ := str_some (show 0 < m.size by omega)
                have hd7 := HD7.out
                rw [if_neg h0] at hd7
                have HD8 := Lib.hid hd7
                have hsz2 : (s ++ m).size ≤ i7 + 1 := by rw [ByteArray.size_append]; have := HI7.out; omega
                clear hd7 hmd
                go_wp2_with fail
                go_roundg (xs.length - (i7 + 1))
                case measure => rw [HG.out]; have := HI7.out; omega
                case rel => exact ⟨i7 + 1, s ++ m, by omega, rfl, hsz2, HD8.out, hbw2, rfl, by go_num⟩
        · have HF := Lib.hid ((tx_none ks az xs i (by omega) s).symm.trans HGo.out)
          go_wp2_with fail
          go_ret2
          exact RSI.mk (by rw [HM.out, ← HF.out]) hbw
end Go.Proofs.Yteigdlgijdmfkaa
