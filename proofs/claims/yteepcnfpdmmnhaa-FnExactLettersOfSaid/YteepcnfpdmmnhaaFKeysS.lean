/-
  FKeysS: spec.l02Find, l02Accent, l02Ok, ValidKeys.
-/
import Derived.Test.YteepcnfpdmmnhaaFKeysM
import Derived.Test.YteepcnfpdmmnhaaFPure
namespace Go.Proofs.Yteepcnfpdmmnhaa
open Go.RowKit
set_option linter.unusedVariables false
attribute [local go_sem ↓] Go.wp_at_zero Go.wp_at_succ
set_option maxHeartbeats 3200000 in
theorem l02Find_any (A : Option Addr) (c n : Nat) (ks : List TKey) (hn : ks.length = n) (hx : ks.length ≤ 1048576) (ch : ByteArray) (w : World) (rx : Row w A encKey 3 ks) :
    Calls Try.prog 141 #[.slice A n c, .string ch] w fun e w' => e = .returned (.tuple #[.int .i64 (findL ks ch).1, .bool (findL ks ch).2]) ∧ w = w' := by
  subst hn
  obtain ⟨M, hM⟩ : ∃ M, M = findL ks ch := ⟨_, rfl⟩
  rw [← hM]
  have HM := Lib.hid hM
  clear hM
  go_enter Try.func141, Try.ntmps141
  go_wp2
  go_loop [6] (fun i => ∃ k : Nat, k ≤ ks.length ∧ findGo ch (ks.drop k) k = M ∧ i = .int .i64 k) (fun i => ks.length - (intOf i).toNat)
  case atStart => exact ⟨0, Nat.zero_le _, HM.out.symm, rfl⟩
  case round =>
    obtain ⟨k, hkk, hgo, rfl⟩ := hrel
    by_cases hlt : k < ks.length
    · rw [List.drop_eq_getElem_cons hlt] at hgo
      unfold findGo at hgo
      obtain ⟨b, off, hA, hb, c0, c1, c2⟩ := rx.at3 (f := fun x : TKey => .string x.1) (g := fun x : TKey => .string x.2.1) (i := fun x : TKey => .bool x.2.2) hlt
      subst hA
      generalize ks[k] = y at *
      obtain ⟨p1, p2, p3⟩ := y
      simp only at c0 c1 c2 hgo
      have i1 : (0 : Int) ≤ (k : Int) := by omega
      have i2 : (k : Int) < (ks.length : Int) := by omega
      by_cases h1 : p1 = ch
      · have te := seq_true h1
        rw [if_pos h1] at hgo
        have HF := Lib.hid hgo
        have H1 := Lib.hid h1
        clear hgo h1
        go_wp2
        go_ret2
        exact ⟨by rw [← HF.out]; rfl, rfl⟩
      · have te := seq_false h1
        rw [if_neg h1] at hgo
        by_cases h2 : p2 = ch
        · have te2 := seq_true h2
          rw [if_pos h2] at hgo
          have HF := Lib.hid hgo
          clear hgo h1 h2
          go_wp2
          go_ret2
          exact ⟨by rw [← HF.out]; rfl, rfl⟩
        · have te2 := seq_false h2
          rw [if_neg h2] at hgo
          have HF := Lib.hid hgo
          clear hgo h1 h2
          go_wp2
          go_round
          case rel => exact ⟨k + 1, by omega, HF.out, by go_num⟩
          case measure => simp [intOf]; omega
    · rw [List.drop_of_length_le (by omega)] at hgo
      have HF := Lib.hid hgo
      clear hgo
      go_wp2
      go_ret2
      exact ⟨by rw [← HF.out]; rfl, rfl⟩
set_option maxHeartbeats 6400000 in
set_option maxRecDepth 10000 in
theorem l02Accent_any (A : Option Addr) (c : Nat) (ks : List TKey) (hx : ks.length ≤ 1048576) (hup : KeysUp ks) (b o : Nat) (a : TAccent) (ha : KAccent a) (w : World) (rx : Row w A encKey 3 ks) (hb : b < w.heap.size)
    (c0 : w.cell? ⟨b, o, none⟩ = some (.string a.1)) (c1 : w.cell? ⟨b, o + 1, none⟩ = some (.string a.2.1)) (c2 : w.cell? ⟨b, o + 2, none⟩ = some (.string a.2.2)) :
    Calls Try.prog 142 #[.slice A ks.length c, .pointer (some ⟨b, o, none⟩)] w (RB (AccK ks a) w) := by
  obtain ⟨a1, a2, a3⟩ := a
  simp only at c0 c1 c2
  have hs3 : a3.size ≤ 1048576 := ha.2.2
  clear ha
  have HUp := Lib.hid hup
  clear hup
  have F1 := Lib.hid (findL_cases ks a1)
  have F2 := Lib.hid (findL_cases ks a2)
  have N3 := Lib.hid (find_neg ks a3)
  obtain ⟨m1, n1, hm1⟩ : ∃ m1 n1, findL ks a1 = (m1, n1) := ⟨_, _, rfl⟩
  obtain ⟨m2, n2, hm2⟩ : ∃ m2 n2, findL ks a2 = (m2, n2) := ⟨_, _, rfl⟩
  obtain ⟨m3, n3, hm3⟩ : ∃ m3 n3, findL ks a3 = (m3, n3) := ⟨_, _, rfl⟩
  have M1 := Lib.hid hm1
  have M2 := Lib.hid hm2
  have M3 := Lib.hid hm3
  have g1 := l02Find_any A c ks.length ks rfl hx a1 w rx
  have g2 := l02Find_any A c ks.length ks rfl hx a2 w rx
  have g3 := l02Find_any A c ks.length ks rfl hx a3 w rx
  rw [hm1] at g1
  rw [hm2] at g2
  rw [hm3] at g3
  have G1 := Lib.hid g1
  have G2 := Lib.hid g2
  have G3 := Lib.hid g3
  clear g1 g2 g3 hm1 hm2 hm3
  have f1 := F1.out
  rw [M1.out] at f1
  rcases f1 with ⟨q1, q2⟩ | ⟨i, hi, t, q1, q2, _, _⟩
  · obtain ⟨rfl, rfl⟩ := Prod.mk.injEq .. ▸ q1
    have hn : ¬ AccK ks (a1, a2, a3) := fun h => q2 h.1.1
    have HN := Lib.hid hn
    clear q1 q2 hn
    go_enter Try.func142, Try.ntmps142
    go_wp2_with (first | (go_at_call_of 141 (a1); refine G1.out.mono ?_; rintro e w1 ⟨rfl, rfl⟩) | (go_at_call_of 141 (a2); refine G2.out.mono ?_; rintro e w1 ⟨rfl, rfl⟩) | (go_at_call_of 141 (a3); refine G3.out.mono ?_; rintro e w1 ⟨rfl, rfl⟩))
    go_ret
    exact RB.mk (nott HN.out)
  obtain ⟨rfl, rfl⟩ := Prod.mk.injEq .. ▸ q1
  have hd1 := dead_of HUp.out hi q2
  have hh1 : HasL ks a1 := ⟨_, List.getElem_mem hi, q2⟩
  obtain ⟨b1, o1, hA, hb1, _, _, e1⟩ := rx.at3 (f := fun x : TKey => .string x.1) (g := fun x : TKey => .string x.2.1) (i := fun x : TKey => .bool x.2.2) hi
  subst hA
  have i1 : (0 : Int) ≤ (i : Int) := by omega
  have i2 : (i : Int) < (ks.length : Int) := by omega
  have hdi : decide ((0 : Int) ≤ (i : Int)) = true := by simp
  clear q1 q2
  by_cases hdd : ks[i].2.2 = true
  case neg =>
    have hd9 : ks[i].2.2 = false := Bool.eq_false_iff.2 hdd
    rw [hd9] at e1
    have HN := Lib.hid (show ¬ AccK ks (a1, a2, a3) from fun h => hdd (hd1.2 h.1.2))
    clear hdd hd1 hd9 hh1
    go_enter Try.func142, Try.ntmps142
    go_wp2_with (first | (go_at_call_of 141 (a1); refine G1.out.mono ?_; rintro e w1 ⟨rfl, rfl⟩) | (go_at_call_of 141 (a2); refine G2.out.mono ?_; rintro e w1 ⟨rfl, rfl⟩) | (go_at_call_of 141 (a3); refine G3.out.mono ?_; rintro e w1 ⟨rfl, rfl⟩))
    go_ret
    exact RB.mk (nott HN.out)
  rw [hdd] at e1
  have HD1 := Lib.hid (hd1.1 hdd)
  have HH1 := Lib.hid hh1
  clear hdd hd1 hh1
  have f2 := F2.out
  rw [M2.out] at f2
  rcases f2 with ⟨q1, q2⟩ | ⟨j, hj, t2, q1, q2, _, _⟩
  · obtain ⟨rfl, rfl⟩ := Prod.mk.injEq .. ▸ q1
    have hn : ¬ AccK ks (a1, a2, a3) := fun h => q2 h.2.1.1
    have HN := Lib.hid hn
    clear q1 q2 hn
    go_enter Try.func142, Try.ntmps142
    go_wp2_with (first | (go_at_call_of 141 (a1); refine G1.out.mono ?_; rintro e w1 ⟨rfl, rfl⟩) | (go_at_call_of 141 (a2); refine G2.out.mono ?_; rintro e w1 ⟨rfl, rfl⟩) | (go_at_call_of 141 (a3); refine G3.out.mono ?_; rintro e w1 ⟨rfl, rfl⟩))
    go_ret
    exact RB.mk (nott HN.out)
  obtain ⟨rfl, rfl⟩ := Prod.mk.injEq .. ▸ q1
  have hd2 := dead_of HUp.out hj q2
  have hh2 : HasL ks a2 := ⟨_, List.getElem_mem hj, q2⟩
  obtain ⟨b2, o2, hA, hb2, _, _, e2⟩ := rx.at3 (f := fun x : TKey => .string x.1) (g := fun x : TKey => .string x.2.1) (i := fun x : TKey => .bool x.2.2) hj
  simp only [Option.some.injEq, Addr.mk.injEq, and_true] at hA
  obtain ⟨rfl, rfl⟩ := hA
  have j1 : (0 : Int) ≤ (j : Int) := by omega
  have j2 : (j : Int) < (ks.length : Int) := by omega
  have hdj : decide ((0 : Int) ≤ (j : Int)) = true := by simp
  clear q1 q2
  by_cases hdd : ks[j].2.2 = true
  · rw [hdd] at e2
    have HN := Lib.hid (show ¬ AccK ks (a1, a2, a3) from fun h => h.2.1.2 (hd2.1 hdd))
    clear hdd hd2 hh2
    go_enter Try.func142, Try.ntmps142
    go_wp2_with (first | (go_at_call_of 141 (a1); refine G1.out.mono ?_; rintro e w1 ⟨rfl, rfl⟩) | (go_at_call_of 141 (a2); refine G2.out.mono ?_; rintro e w1 ⟨rfl, rfl⟩) | (go_at_call_of 141 (a3); refine G3.out.mono ?_; rintro e w1 ⟨rfl, rfl⟩))
    go_ret
    exact RB.mk (nott HN.out)
  have hd9 : ks[j].2.2 = false := Bool.eq_false_iff.2 hdd
  rw [hd9] at e2
  have HD2 := Lib.hid (fun q => hdd (hd2.2 q) : ¬ DeadL ks a2)
  have HH2 := Lib.hid hh2
  clear hdd hd2 hh2 hd9
  have f3 := N3.out
  rw [M3.out] at f3
  simp only at f3
  by_cases h3 : m3 < 0
  case neg =>
    have hd3 : decide (m3 < 0) = false := by simp; omega
    have HN := Lib.hid (show ¬ AccK ks (a1, a2, a3) from fun h => h3 (f3.2 h.2.2.1))
    clear h3 f3
    go_enter Try.func142, Try.ntmps142
    go_wp2_with (first | (go_at_call_of 141 (a1); refine G1.out.mono ?_; rintro e w1 ⟨rfl, rfl⟩) | (go_at_call_of 141 (a2); refine G2.out.mono ?_; rintro e w1 ⟨rfl, rfl⟩) | (go_at_call_of 141 (a3); refine G3.out.mono ?_; rintro e w1 ⟨rfl, rfl⟩))
    go_ret
    exact RB.mk (nott HN.out)
  have hd3 : decide (m3 < 0) = true := by simp; omega
  have H3 := Lib.hid (f3.1 h3)
  clear h3 f3
  by_cases hl : LetterOk a3
  · have HL := Lib.hid hl
    have HY := Lib.hid (show AccK ks (a1, a2, a3) from ⟨⟨HH1.out, HD1.out⟩, ⟨HH2.out, HD2.out⟩, H3.out, hl⟩)
    clear hl
    go_enter Try.func142, Try.ntmps142
    go_wp2_with (first | (go_at_call_of 141 (a1); refine G1.out.mono ?_; rintro e w1 ⟨rfl, rfl⟩) | (go_at_call_of 141 (a2); refine G2.out.mono ?_; rintro e w1 ⟨rfl, rfl⟩) | (go_at_call_of 141 (a3); refine G3.out.mono ?_; rintro e w1 ⟨rfl, rfl⟩) | (go_at_call 130; refine (RB.yes (l02Letter_any a3 hs3 _) HL.out).mono ?_; rintro e w1 ⟨rfl, rfl⟩))
    go_ret
    exact RB.mk (yest HY.out)
  · have HL := Lib.hid hl
    have HY := Lib.hid (show ¬ AccK ks (a1, a2, a3) from fun h => hl h.2.2.2)
    clear hl
    go_enter Try.func142, Try.ntmps142
    go_wp2_with (first | (go_at_call_of 141 (a1); refine G1.out.mono ?_; rintro e w1 ⟨rfl, rfl⟩) | (go_at_call_of 141 (a2); refine G2.out.mono ?_; rintro e w1 ⟨rfl, rfl⟩) | (go_at_call_of 141 (a3); refine G3.out.mono ?_; rintro e w1 ⟨rfl, rfl⟩) | (go_at_call 130; refine (RB.no (l02Letter_any a3 hs3 _) HL.out).mono ?_; rintro e w1 ⟨rfl, rfl⟩))
    go_ret
    exact RB.mk (nott HY.out)
set_option maxHeartbeats 12800000 in
set_option maxRecDepth 10000 in
theorem l02Ok_any (A : Option Addr) (c : Nat) (ks : List TKey) (hx : ks.length ≤ 1048576) (hk : ∀ x ∈ ks, KKey x) (hcap : ks.length ≤ c) (B : Option Addr) (d : Nat) (az : List TAccent) (hy : az.length ≤ 1048576) (hm : ∀ x ∈ az, KAccent x) (w : World) (rx : Row w A encKey 3 ks) (ry : Row w B encAccent 3 az) :
    Calls Try.prog 115 #[.slice A ks.length c, .slice B az.length d] w (RBb (KeysOk ks az) w) := by
  go_enter Try.func115, Try.ntmps115
  go_wp2_with fail
  go_loopg [5] ks.length (fun g is wr => ∃ k : Nat, k ≤ ks.length ∧ g = ks.length - k ∧ (∀ i, i < k → KeyP ks i) ∧ Below w.heap.size w wr ∧ is = .int .i64 k)
  case atStart => exact ⟨0, Nat.zero_le _, rfl, fun i h => absurd h (by omega), Below.refl _ _, rfl⟩
  case round =>
    obtain ⟨k, hkk, hg, hup, hbw, rfl⟩ := hrel
    have HG := Lib.hid hg
    have HUp := Lib.hid hup
    clear hg hup
    have RX := Lib.hid (rx.below hbw)
    by_cases hlt : k < ks.length
    · obtain ⟨b, off, hA, hb, c0, c1, _⟩ := (rx.below hbw).at3 (f := fun x : TKey => .string x.1) (g := fun x : TKey => .string x.2.1) (i := fun x : TKey => .bool x.2.2) hlt
      subst hA
      have hkx := hk _ (List.getElem_mem hlt)
      have HKP := Lib.hid (show KeyP ks k ↔ ((LetterOk ks[k].1 ∧ LetterOk ks[k].2.1) ∧ ks[k].1 ≠ ks[k].2.1 ∧ ¬ HasL (ks.take k) ks[k].1 ∧ ¬ HasL (ks.take k) ks[k].2.1) from ⟨fun ⟨_, q⟩ => q, fun q => ⟨hlt, q⟩⟩)
      obtain ⟨p1, hp1⟩ : ∃ p, ks[k].1 = p := ⟨_, rfl⟩
      obtain ⟨p2, hp2⟩ : ∃ p, ks[k].2.1 = p := ⟨_, rfl⟩
      rw [hp1] at c0
      rw [hp2] at c1
      have hkp := HKP.out
      rw [hp1, hp2] at hkp
      have HKQ := Lib.hid hkp
      have hs1 : p1.size ≤ 1048576 := by rw [← hp1]; exact hkx.1
      have hs2 : p2.size ≤ 1048576 := by rw [← hp2]; exact hkx.2
      clear hkx hp1 hp2 hkp
      have i1 : (0 : Int) ≤ (k : Int) := by omega
      have i2 : (k : Int) < (ks.length : Int) := by omega
      have i3 : (k : Int) ≤ (c : Int) := by omega
      have i4 : k ≤ c := by omega
      have hlk : (ks.take k).length = k := by rw [List.length_take]; omega
      have hlm : (ks.take k).length ≤ 1048576 := by omega
      have HLK := Lib.hid hlk
      have HLM := Lib.hid hlm
      clear hlk hlm
      by_cases h1 : LetterOk p1
      case neg =>
        have L1 := Lib.hid (fun w => RB.no (l02Letter_any p1 hs1 w) h1)
        have HN := Lib.hid (show ¬ KeyP ks k from fun q => h1 (HKQ.out.1 q).1.1)
        clear h1
        go_wp2_with (go_quiet ((first | (go_at_call_of 130 (p1); exact quiet_left (L1.out _)))))
        go_ret
        exact RBb.mk (nott fun hh => HN.out (hh.2.1 k hlt)) (by first | exact bdrewN hbw _ | exact bdrewN (bdrewN hbw _) _ | exact bdrewN (bdrewN (bdrewN hbw _) _) _)
      have L1 := Lib.hid (fun w => RB.yes (l02Letter_any p1 hs1 w) h1)
      have H1 := Lib.hid h1
      clear h1
      by_cases h2 : LetterOk p2
      case neg =>
        have L2 := Lib.hid (fun w => RB.no (l02Letter_any p2 hs2 w) h2)
        have HN := Lib.hid (show ¬ KeyP ks k from fun q => h2 (HKQ.out.1 q).1.2)
        clear h2
        go_wp2_with (go_quiet ((first | (go_at_call_of 130 (p1); exact quiet_left (L1.out _)) | (go_at_call_of 130 (p2); exact quiet_left (L2.out _)))))
        go_ret
        exact RBb.mk (nott fun hh => HN.out (hh.2.1 k hlt)) (by first | exact bdrewN hbw _ | exact bdrewN (bdrewN hbw _) _ | exact bdrewN (bdrewN (bdrewN hbw _) _) _)
      have L2 := Lib.hid (fun w => RB.yes (l02Letter_any p2 hs2 w) h2)
      have H2 := Lib.hid h2
      clear h2
      by_cases h3 : p1 = p2
      case pos =>
        have te := seq_true h3
        have HN := Lib.hid (show ¬ KeyP ks k from fun q => (HKQ.out.1 q).2.1 h3)
        clear h3
        go_wp2_with (go_quiet ((first | (go_at_call_of 130 (p1); exact quiet_left (L1.out _)) | (go_at_call_of 130 (p2); exact quiet_left (L2.out _)))))
        go_ret
        exact RBb.mk (nott fun hh => HN.out (hh.2.1 k hlt)) (by first | exact bdrewN hbw _ | exact bdrewN (bdrewN hbw _) _ | exact bdrewN (bdrewN (bdrewN hbw _) _) _)
      have te := seq_false h3
      have H3 := Lib.hid h3
      clear h3
      obtain ⟨m1, n1, hm1⟩ : ∃ m1 n1, findL (ks.take k) p1 = (m1, n1) := ⟨_, _, rfl⟩
      obtain ⟨m2, n2, hm2⟩ : ∃ m2 n2, findL (ks.take k) p2 = (m2, n2) := ⟨_, _, rfl⟩
      have N1 := find_neg (ks.take k) p1
      have N2 := find_neg (ks.take k) p2
      rw [hm1] at N1
      rw [hm2] at N2
      simp only at N1 N2
      have g1 := fun (w' : World) (r : Row w' (some ⟨b, off, none⟩) encKey 3 ks) => l02Find_any (some ⟨b, off, none⟩) c k (ks.take k) HLK.out HLM.out p1 w' (r.takeK k)
      have g2 := fun (w' : World) (r : Row w' (some ⟨b, off, none⟩) encKey 3 ks) => l02Find_any (some ⟨b, off, none⟩) c k (ks.take k) HLK.out HLM.out p2 w' (r.takeK k)
      rw [hm1] at g1
      rw [hm2] at g2
      have G1 := Lib.hid g1
      have G2 := Lib.hid g2
      clear g1 g2 hm1 hm2
      by_cases h4 : m1 < 0
      case neg =>
        have hd : decide ((0 : Int) ≤ m1) = true := by simp; omega
        have HN := Lib.hid (show ¬ KeyP ks k from fun q => h4 (N1.2 (HKQ.out.1 q).2.2.1))
        clear h4 N1 N2
        go_wp2_with (go_quiet ((first | (go_at_call_of 130 (p1); exact quiet_left (L1.out _)) | (go_at_call_of 130 (p2); exact quiet_left (L2.out _)) | (go_at_call_of 141 (p1); first | exact quiet_left (G1.out _ (RX.out.below (bdrewN (Below.refl _ _) _))) | exact quiet_add_left (G1.out _ (RX.out.below (bdrewN (Below.refl _ _) _)))) | (go_at_call_of 141 (p2); first | exact quiet_left (G2.out _ (RX.out.below (bdrewN (Below.refl _ _) _))) | exact quiet_add_left (G2.out _ (RX.out.below (bdrewN (Below.refl _ _) _)))))))
        go_ret
        exact RBb.mk (nott fun hh => HN.out (hh.2.1 k hlt)) (by first | exact bdrewN hbw _ | exact bdrewN (bdrewN hbw _) _ | exact bdrewN (bdrewN (bdrewN hbw _) _) _)
      have hd : decide ((0 : Int) ≤ m1) = false := by simp; omega
      have H4 := Lib.hid (N1.1 h4)
      clear h4 N1
      by_cases h5 : m2 < 0
      case neg =>
        have hd2 : decide ((0 : Int) ≤ m2) = true := by simp; omega
        have HN := Lib.hid (show ¬ KeyP ks k from fun q => h5 (N2.2 (HKQ.out.1 q).2.2.2))
        clear h5 N2
        go_wp2_with (go_quiet ((first | (go_at_call_of 130 (p1); exact quiet_left (L1.out _)) | (go_at_call_of 130 (p2); exact quiet_left (L2.out _)) | (go_at_call_of 141 (p1); first | exact quiet_left (G1.out _ (RX.out.below (bdrewN (Below.refl _ _) _))) | exact quiet_add_left (G1.out _ (RX.out.below (bdrewN (Below.refl _ _) _)))) | (go_at_call_of 141 (p2); first | exact quiet_left (G2.out _ (RX.out.below (bdrewN (Below.refl _ _) _))) | exact quiet_add_left (G2.out _ (RX.out.below (bdrewN (Below.refl _ _) _)))))))
        go_ret
        exact RBb.mk (nott fun hh => HN.out (hh.2.1 k hlt)) (by first | exact bdrewN hbw _ | exact bdrewN (bdrewN hbw _) _ | exact bdrewN (bdrewN (bdrewN hbw _) _) _)
      have hd2 : decide ((0 : Int) ≤ m2) = false := by simp; omega
      have HY := Lib.hid (show KeyP ks k from HKQ.out.2 ⟨⟨H1.out, H2.out⟩, H3.out, H4.out, N2.1 h5⟩)
      clear h5 N2
      go_wp2_with (go_quiet ((first | (go_at_call_of 130 (p1); exact quiet_left (L1.out _)) | (go_at_call_of 130 (p2); exact quiet_left (L2.out _)) | (go_at_call_of 141 (p1); first | exact quiet_left (G1.out _ (RX.out.below (bdrewN (Below.refl _ _) _))) | exact quiet_add_left (G1.out _ (RX.out.below (bdrewN (Below.refl _ _) _)))) | (go_at_call_of 141 (p2); first | exact quiet_left (G2.out _ (RX.out.below (bdrewN (Below.refl _ _) _))) | exact quiet_add_left (G2.out _ (RX.out.below (bdrewN (Below.refl _ _) _)))))))
      go_roundg (ks.length - (k + 1))
      case measure => rw [HG.out]; omega
      case rel => exact ⟨k + 1, by omega, rfl, fun i hi => (Nat.lt_succ_iff_lt_or_eq.1 hi).elim (HUp.out i) (fun hh => by subst hh; exact HY.out), by first | exact bdrewN hbw _ | exact bdrewN (bdrewN hbw _) _ | exact bdrewN (bdrewN (bdrewN hbw _) _) _, by go_num⟩
    · have HKU := Lib.hid (show KeysUp ks from fun i hi => HUp.out i (by omega))
      go_wp2_with fail
      go_loopg [11] az.length (fun g is wr => ∃ k : Nat, k ≤ az.length ∧ g = az.length - k ∧ (∀ i (h : i < az.length), i < k → AccK ks az[i] ∧ AccN az i az[i]) ∧ Below w.heap.size w wr ∧ is = .int .i64 k)
      case atStart => exact ⟨0, Nat.zero_le _, rfl, fun i h hi => absurd hi (by omega), hbw, rfl⟩
      case round =>
        obtain ⟨k, hkk, hg, hacc, hbw, rfl⟩ := hrel
        have HG := Lib.hid hg
        have HAcc := Lib.hid hacc
        clear hg hacc
        by_cases hlt : k < az.length
        · obtain ⟨b, off, hA, hb, c0, c1, c2⟩ := (ry.below hbw).at3 (f := fun x : TAccent => .string x.1) (g := fun x : TAccent => .string x.2.1) (i := fun x : TAccent => .string x.2.2) hlt
          subst hA
          have hma := hm _ (List.getElem_mem hlt)
          obtain ⟨a, ha⟩ : ∃ a, az[k] = a := ⟨_, rfl⟩
          rw [ha] at c0 c1 c2 hma
          have HA := Lib.hid ha
          clear ha
          have i1 : (0 : Int) ≤ (k : Int) := by omega
          have i2 : (k : Int) < (az.length : Int) := by omega
          by_cases hak : AccK ks a
          case neg =>
            have HN := Lib.hid hak
            clear hak
            go_wp2_with (go_at_call 142; refine (RB.no (l02Accent_any _ _ ks hx HKU.out b _ a hma _ (rx.below hbw) hb c0 c1 c2) HN.out).mono ?_; rintro e w1 ⟨rfl, rfl⟩)
            go_ret
            exact RBb.mk (nott fun hh => HN.out (by rw [← HA.out]; exact (hh.2.2 k hlt).1)) hbw
          have HK := Lib.hid hak
          clear hak
          go_wp2_with (go_at_call 142; refine (RB.yes (l02Accent_any _ _ ks hx HKU.out b _ a hma _ (rx.below hbw) hb c0 c1 c2) HK.out).mono ?_; rintro e w1 ⟨rfl, rfl⟩)
          go_loopg [12] k (fun g2 js wr => ∃ m : Nat, m ≤ k ∧ g2 = k - m ∧ AccN az m a ∧ Below w.heap.size w wr ∧ js = .int .i64 m)
          case atStart => exact ⟨0, Nat.zero_le _, rfl, fun j h hj => absurd hj (by omega), hbw, rfl⟩
          case round =>
            obtain ⟨m, hmk, hg2, hn2, hbw2, rfl⟩ := hrel
            have HG2 := Lib.hid hg2
            have HN2 := Lib.hid hn2
            clear hg2 hn2 c0 c1 c2
            by_cases hlt2 : m < k
            · obtain ⟨b5, off5, hA5, hb5, d0, d1, d2⟩ := (ry.below hbw2).at3 (f := fun x : TAccent => .string x.1) (g := fun x : TAccent => .string x.2.1) (i := fun x : TAccent => .string x.2.2) (show m < az.length by omega)
              simp only [Option.some.injEq, Addr.mk.injEq, and_true] at hA5
              obtain ⟨rfl, rfl⟩ := hA5
              obtain ⟨b6, off6, hA6, hb6, e0, e1, e2⟩ := (ry.below hbw2).at3 (f := fun x : TAccent => .string x.1) (g := fun x : TAccent => .string x.2.1) (i := fun x : TAccent => .string x.2.2) hlt
              simp only [Option.some.injEq, Addr.mk.injEq, and_true] at hA6
              obtain ⟨rfl, rfl⟩ := hA6
              rw [HA.out] at e0 e1 e2
              obtain ⟨q, hq⟩ : ∃ q, az[m]'(by omega) = q := ⟨_, rfl⟩
              rw [hq] at d0 d1 d2
              have HQ := Lib.hid hq
              clear hq
              obtain ⟨q1, q2, q3⟩ := q
              obtain ⟨a1, a2, a3⟩ := a
              simp only at d0 d1 d2 e0 e1 e2
              have j1 : (0 : Int) ≤ (m : Int) := by omega
              have j2 : (m : Int) < (az.length : Int) := by omega
              have j3 : (m : Int) < (k : Int) := by omega
              by_cases h1 : q3 = a3
              · have te := seq_true h1
                have HN := Lib.hid (show ¬ AccN az k (a1, a2, a3) from fun h => (h m (by omega) hlt2).1 (by rw [HQ.out]; exact h1))
                clear h1
                go_wp2_with (go_quiet (fail))
                go_ret
                exact RBb.mk (nott fun hh => HN.out (by rw [← HA.out]; exact (hh.2.2 k hlt).2)) (bdrewN hbw2 _)
              have te := seq_false h1
              by_cases h2 : q1 = a1
              · have te2 := seq_true h2
                by_cases h3 : q2 = a2
                · have te3 := seq_true h3
                  have HN := Lib.hid (show ¬ AccN az k (a1, a2, a3) from fun h => (h m (by omega) hlt2).2 (by rw [HQ.out]; exact ⟨h2, h3⟩))
                  clear h1 h2 h3
                  go_wp2_with (go_quiet (fail))
                  go_ret
                  exact RBb.mk (nott fun hh => HN.out (by rw [← HA.out]; exact (hh.2.2 k hlt).2)) (bdrewN hbw2 _)
                · have te3 := seq_false h3
                  have HY := Lib.hid (show (az[m]'(by omega)).2.2 ≠ a3 ∧ ¬ ((az[m]'(by omega)).1 = a1 ∧ (az[m]'(by omega)).2.1 = a2) from by rw [HQ.out]; exact ⟨h1, fun q => h3 q.2⟩)
                  clear h1 h2 h3
                  go_wp2_with (go_quiet (fail))
                  go_roundg (k - (m + 1))
                  case measure => rw [HG2.out]; omega
                  case rel => exact ⟨m + 1, by omega, rfl, fun j hj hjm => (Nat.lt_succ_iff_lt_or_eq.1 hjm).elim (HN2.out j hj) (fun hh => by subst hh; exact HY.out), bdrewN hbw2 _, by go_num⟩
              · have te2 := seq_false h2
                have HY := Lib.hid (show (az[m]'(by omega)).2.2 ≠ a3 ∧ ¬ ((az[m]'(by omega)).1 = a1 ∧ (az[m]'(by omega)).2.1 = a2) from by rw [HQ.out]; exact ⟨h1, fun q => h2 q.1⟩)
                clear h1 h2
                go_wp2_with (go_quiet (fail))
                go_roundg (k - (m + 1))
                case measure => rw [HG2.out]; omega
                case rel => exact ⟨m + 1, by omega, rfl, fun j hj hjm => (Nat.lt_succ_iff_lt_or_eq.1 hjm).elim (HN2.out j hj) (fun hh => by subst hh; exact HY.out), bdrewN hbw2 _, by go_num⟩
            · have hmk2 : m = k := by omega
              subst hmk2
              go_wp2_with fail
              go_roundg (az.length - (m + 1))
              case measure => rw [HG.out]; omega
              case rel => exact ⟨m + 1, by omega, rfl, fun i h hi => (Nat.lt_succ_iff_lt_or_eq.1 hi).elim (HAcc.out i h) (fun hh => by subst hh; rw [HA.out]; exact ⟨HK.out, HN2.out⟩), hbw2, by go_num⟩
        · have HAU := Lib.hid (show AccsUp ks az from fun i h => HAcc.out i h (by omega))
          rcases ff2 (ks.length ≤ 40) (az.length ≤ 20) with h1 | ⟨h1, h2⟩ | ⟨h1, h2⟩
          · have te : decide ((ks.length : Int) ≤ 40) = false := by simp; omega
            have HN := Lib.hid h1
            clear h1
            go_wp2_with fail
            go_ret
            exact RBb.mk (nott fun hh => HN.out hh.1.1) hbw
          · have te : decide ((ks.length : Int) ≤ 40) = true := by simp; omega
            have te2 : decide ((az.length : Int) ≤ 20) = false := by simp; omega
            have HN := Lib.hid h2
            clear h1 h2
            go_wp2_with fail
            go_ret
            exact RBb.mk (nott fun hh => HN.out hh.1.2) hbw
          · have te : decide ((ks.length : Int) ≤ 40) = true := by simp; omega
            have te2 : decide ((az.length : Int) ≤ 20) = true := by simp; omega
            have HN := Lib.hid (And.intro h1 h2)
            clear h1 h2
            go_wp2_with fail
            go_ret
            exact RBb.mk (yest ⟨HN.out, HKU.out, HAU.out⟩) hbw
end Go.Proofs.Yteepcnfpdmmnhaa
