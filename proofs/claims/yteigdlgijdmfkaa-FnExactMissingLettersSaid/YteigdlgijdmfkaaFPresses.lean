/-
  FPresses: the presses for a letter: spec.l02Presses.
-/
import Derived.Test.YteigdlgijdmfkaaFPressesM
namespace Go.Proofs.Yteigdlgijdmfkaa
open Go.RowKit
set_option linter.unusedVariables false
attribute [local go_sem ↓] Go.wp_at_zero Go.wp_at_succ
set_option linter.unusedSimpArgs false
set_option maxHeartbeats 2400000 in
set_option maxRecDepth 10000 in
theorem l02Presses_any (A : Option Addr) (c : Nat) (ks : List TKey) (hx : ks.length ≤ 1048576) (B : Option Addr) (d : Nat) (az : List TAccent) (hKO : KeysOk ks az) (ch : ByteArray) (w : World) (rx : Row w A encKey 3 ks) (ry : Row w B encAccent 3 az) :
    Calls Try.prog 60 #[.slice A ks.length c, .slice B az.length d, .string ch] w (RLP encPress 2 78 (presV ks az ch) w) := by
  have HKO := Lib.hid hKO
  have hup := hKO.2.1
  have hau := hKO.2.2
  obtain ⟨R, hR⟩ : ∃ R, R = presGo ks ch az := ⟨_, rfl⟩
  have HP := Lib.hid hR
  have g := fun (w' : World) (r : Row w' A encKey 3 ks) => l02Find_any A c ks.length ks rfl hx ch w' r
  by_cases h : HasL ks ch
  · obtain ⟨i, hi, sh, hf, hin⟩ := find_has h
    rw [hf] at g
    have G := Lib.hid g
    obtain ⟨b, off, hA, hb, _, _, c2⟩ := rx.at3 (f := fun x : TKey => .string x.1) (g := fun x : TKey => .string x.2.1) (i := fun x : TKey => .bool x.2.2) hi
    subst hA
    have hde := dead_of hup hi hin
    have i1 : (0 : Int) ≤ (i : Int) := by omega
    have i2 : (i : Int) < (ks.length : Int) := by omega
    by_cases hd : ks[i].2.2 = true
    case neg =>
      have HM := Lib.hid (show presV ks az ch = [((i : Int), sh)] by rw [presV_live h (fun q => hd (hde.2 q)), hf])
      rw [Bool.eq_false_iff.2 hd] at c2
      clear g hf hin hde hd h hKO hup hau hR
      go_enter Try.func60, Try.ntmps60
      go_wp2_with (go_at_call 83; refine (G.out _ rx).mono ?_; rintro e w1 ⟨rfl, rfl⟩)
      go_ret
      exact RLP.mk HM.out.symm (by simp) (Own.lit (e := encPress) (s := 2) w (fun _ => rfl) w.heap.size 78 (Nat.le_refl _) [((i : Int), sh)] (by unfold maxLen; simp)) (bal (Below.refl _ _) _)
    have HM := Lib.hid (show presV ks az ch = R by rw [presV_dead (hde.1 hd), hR])
    rw [hd] at c2
    clear g hf hin hde hd h hKO hup hau hR
    go_enter Try.func60, Try.ntmps60
    go_wp2_with (go_at_call 83; refine (G.out _ rx).mono ?_; rintro e w1 ⟨rfl, rfl⟩)
    have hyl : az.length ≤ 20 := HKO.out.1.2
    go_loopg [9] az.length (fun g is wr => ∃ k : Nat, k ≤ az.length ∧ g = az.length - k ∧ presGo ks ch (az.drop k) = R ∧ Below w.heap.size w wr ∧ is = .int .i64 k)
    case atStart => exact ⟨0, Nat.zero_le _, rfl, HP.out.symm, Below.refl _ _, rfl⟩
    case round =>
      obtain ⟨k, hkk, hg, hgo, hbw, rfl⟩ := hrel
      have HG := Lib.hid hg
      clear hg
      by_cases hlt : k < az.length
      · obtain ⟨b8, off8, hA, hb8, a0, a1, a2⟩ := (ry.below hbw).at3 (f := fun x : TAccent => .string x.1) (g := fun x : TAccent => .string x.2.1) (i := fun x : TAccent => .string x.2.2) hlt
        subst hA
        rw [pg_step ks ch az k hlt] at hgo
        have hacc := (HKO.out.2.2 k hlt).1
        obtain ⟨a, ha⟩ : ∃ a, az[k] = a := ⟨_, rfl⟩
        rw [ha] at a0 a1 a2 hgo hacc
        clear ha
        obtain ⟨u1, u2, u3⟩ := a
        simp only at a0 a1 a2 hgo
        have h1 : HasL ks u1 := hacc.1.1
        have h2 : HasL ks u2 := hacc.2.1.1
        clear hacc
        have k1 : (0 : Int) ≤ (k : Int) := by omega
        have k2 : (k : Int) < (az.length : Int) := by omega
        by_cases he : u3 = ch
        · have te := seq_true he
          rw [if_pos he] at hgo
          obtain ⟨f1, n1, hf1⟩ : ∃ f1 n1, findL ks u1 = (f1, n1) := ⟨_, _, rfl⟩
          obtain ⟨f2, n2, hf2⟩ : ∃ f2 n2, findL ks u2 = (f2, n2) := ⟨_, _, rfl⟩
          rw [hf1, hf2] at hgo
          have g1 := fun (w' : World) (r : Row w' (some ⟨b, off, none⟩) encKey 3 ks) => l02Find_any _ c ks.length ks rfl hx u1 w' r
          have g2 := fun (w' : World) (r : Row w' (some ⟨b, off, none⟩) encKey 3 ks) => l02Find_any _ c ks.length ks rfl hx u2 w' r
          rw [hf1] at g1
          rw [hf2] at g2
          have G1 := Lib.hid g1
          have G2 := Lib.hid g2
          have HF := Lib.hid hgo
          clear g1 g2 hf1 hf2 hgo he h1 h2
          go_wp2_with (first | (go_at_call_of 83 (u1); refine (G1.out _ (rx.below hbw)).mono ?_; rintro e w3 ⟨rfl, rfl⟩) | (go_at_call_of 83 (u2); refine (G2.out _ (rx.below hbw)).mono ?_; rintro e w3 ⟨rfl, rfl⟩))
          go_ret
          exact RLP.mk (HM.out.trans HF.out.symm).symm (by simp) (Own.lit (e := encPress) (s := 2) wr (fun _ => rfl) w.heap.size 78 hbw.size [(f1, n1), (f2, n2)] (by unfold maxLen; simp)) (bal hbw _)
        · have te := seq_false he
          rw [if_neg he] at hgo
          have HF := Lib.hid hgo
          clear hgo he
          go_wp2_with fail
          go_roundg (az.length - (k + 1))
          case measure => rw [HG.out]; omega
          case rel => exact ⟨k + 1, by omega, rfl, HF.out, hbw, by go_num⟩
      · have HF := Lib.hid (show presV ks az ch = [] by rw [HM.out, ← hgo, List.drop_of_length_le (by omega)]; rfl)
        go_wp2_with fail
        go_ret
        exact RLP.mk HF.out.symm (by simp) (Own.lit0 (e := encPress) (s := 2) wr (fun _ => rfl) w.heap.size 78 hbw.size) (bal hbw _)
  · rw [find_not h] at g
    have G := Lib.hid g
    have HM := Lib.hid (show presV ks az ch = R by rw [presV_not h, hR])
    clear g h hKO hup hau hR
    go_enter Try.func60, Try.ntmps60
    go_wp2_with (go_at_call 83; refine (G.out _ rx).mono ?_; rintro e w1 ⟨rfl, rfl⟩)
    have hyl : az.length ≤ 20 := HKO.out.1.2
    go_loopg [9] az.length (fun g is wr => ∃ k : Nat, k ≤ az.length ∧ g = az.length - k ∧ presGo ks ch (az.drop k) = R ∧ Below w.heap.size w wr ∧ is = .int .i64 k)
    case atStart => exact ⟨0, Nat.zero_le _, rfl, HP.out.symm, Below.refl _ _, rfl⟩
    case round =>
      obtain ⟨k, hkk, hg, hgo, hbw, rfl⟩ := hrel
      have HG := Lib.hid hg
      clear hg
      by_cases hlt : k < az.length
      · obtain ⟨b8, off8, hA, hb8, a0, a1, a2⟩ := (ry.below hbw).at3 (f := fun x : TAccent => .string x.1) (g := fun x : TAccent => .string x.2.1) (i := fun x : TAccent => .string x.2.2) hlt
        subst hA
        rw [pg_step ks ch az k hlt] at hgo
        have hacc := (HKO.out.2.2 k hlt).1
        obtain ⟨a, ha⟩ : ∃ a, az[k] = a := ⟨_, rfl⟩
        rw [ha] at a0 a1 a2 hgo hacc
        clear ha
        obtain ⟨u1, u2, u3⟩ := a
        simp only at a0 a1 a2 hgo
        have h1 : HasL ks u1 := hacc.1.1
        have h2 : HasL ks u2 := hacc.2.1.1
        clear hacc
        have k1 : (0 : Int) ≤ (k : Int) := by omega
        have k2 : (k : Int) < (az.length : Int) := by omega
        by_cases he : u3 = ch
        · have te := seq_true he
          rw [if_pos he] at hgo
          obtain ⟨f1, n1, hf1⟩ : ∃ f1 n1, findL ks u1 = (f1, n1) := ⟨_, _, rfl⟩
          obtain ⟨f2, n2, hf2⟩ : ∃ f2 n2, findL ks u2 = (f2, n2) := ⟨_, _, rfl⟩
          rw [hf1, hf2] at hgo
          have g1 := fun (w' : World) (r : Row w' A encKey 3 ks) => l02Find_any _ c ks.length ks rfl hx u1 w' r
          have g2 := fun (w' : World) (r : Row w' A encKey 3 ks) => l02Find_any _ c ks.length ks rfl hx u2 w' r
          rw [hf1] at g1
          rw [hf2] at g2
          have G1 := Lib.hid g1
          have G2 := Lib.hid g2
          have HF := Lib.hid hgo
          clear g1 g2 hf1 hf2 hgo he h1 h2
          go_wp2_with (first | (go_at_call_of 83 (u1); refine (G1.out _ (rx.below hbw)).mono ?_; rintro e w3 ⟨rfl, rfl⟩) | (go_at_call_of 83 (u2); refine (G2.out _ (rx.below hbw)).mono ?_; rintro e w3 ⟨rfl, rfl⟩))
          go_ret
          exact RLP.mk (HM.out.trans HF.out.symm).symm (by simp) (Own.lit (e := encPress) (s := 2) wr (fun _ => rfl) w.heap.size 78 hbw.size [(f1, n1), (f2, n2)] (by unfold maxLen; simp)) (bal hbw _)
        · have te := seq_false he
          rw [if_neg he] at hgo
          have HF := Lib.hid hgo
          clear hgo he
          go_wp2_with fail
          go_roundg (az.length - (k + 1))
          case measure => rw [HG.out]; omega
          case rel => exact ⟨k + 1, by omega, rfl, HF.out, hbw, by go_num⟩
      · have HF := Lib.hid (show presV ks az ch = [] by rw [HM.out, ← hgo, List.drop_of_length_le (by omega)]; rfl)
        go_wp2_with fail
        go_ret
        exact RLP.mk HF.out.symm (by simp) (Own.lit0 (e := encPress) (s := 2) wr (fun _ => rfl) w.heap.size 78 hbw.size) (bal hbw _)
end Go.Proofs.Yteigdlgijdmfkaa
