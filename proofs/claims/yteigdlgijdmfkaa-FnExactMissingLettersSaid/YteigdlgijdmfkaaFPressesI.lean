/-
  FPressesI: the presses for a letter: impl.pressesOf.
-/
import Derived.Test.YteigdlgijdmfkaaFPressesM
namespace Go.Proofs.Yteigdlgijdmfkaa
open Go.RowKit
set_option linter.unusedVariables false
attribute [local go_sem ↓] Go.wp_at_zero Go.wp_at_succ
set_option linter.unusedSimpArgs false
set_option maxHeartbeats 2400000 in
set_option maxRecDepth 10000 in
theorem pressesOf_any (A : Option Addr) (c : Nat) (ks : List TKey) (hx : ks.length ≤ 1048576) (B : Option Addr) (d : Nat) (az : List TAccent) (hKO : KeysOk ks az) (ch : ByteArray) (w : World) (rx : Row w A encKey 3 ks) (ry : Row w B encAccent 3 az) :
    Calls Try.prog 62 #[.slice A ks.length c, .slice B az.length d, .string ch] w (RLP encPress 2 78 (presV ks az ch) w) := by
  have HKO := Lib.hid hKO
  have hup := hKO.2.1
  have hau := hKO.2.2
  obtain ⟨R, hR⟩ : ∃ R, R = presGo ks ch az := ⟨_, rfl⟩
  have HP := Lib.hid hR
  have g := fun (w' : World) (r : Row w' A encKey 3 ks) => pressOf_any A c ks hx hup ch w' r
  by_cases h : HasL ks ch
  · obtain ⟨i, hi, sh, hf, hin⟩ := find_has h
    rw [show M_pressOf ks ch = (((i : Int), sh), true) by unfold M_pressOf; rw [if_pos h, hf]] at g
    have G := Lib.hid g
    obtain ⟨b, off, hA, hb, _, _, c2⟩ := rx.at3 (f := fun x : TKey => .string x.1) (g := fun x : TKey => .string x.2.1) (i := fun x : TKey => .bool x.2.2) hi
    subst hA
    have hde := dead_of hup hi hin
    have i1 : (0 : Int) ≤ (i : Int) := by omega
    have i2 : (i : Int) < (ks.length : Int) := by omega
    by_cases hd : ks[i].2.2 = true
    case neg =>
      have HM := Lib.hid (show presV ks az ch = [((i : Int), sh)] by rw [presV_live h (fun q => hd (hde.2 q)), hf])
      rw [Bool.eq_false_iff.2 hd] at c2
      clear g hf hin hde hd h hKO hup hau hR
      go_enter Try.func62, Try.ntmps62
      go_wp2_with (go_at_call 87; refine (G.out _ rx).mono ?_; rintro e w3 ⟨rfl, hb3⟩; have hB3 := bal hb3 (.cells #[.int .i64 (i : Int), .bool sh] 78); have e2 := (hB3.cell (p := ⟨b, _, none⟩) hb).trans c2; have hb4 := Nat.lt_of_lt_of_le hb hB3.size)
      go_ret
      exact RLP.mk HM.out.symm (by simp) (Own.litAt (e := encPress) (s := 2) _ (fun _ => rfl) w.heap.size 78 hB3.size [((i : Int), sh)] (by unfold maxLen; simp) (by simp)) (bal hB3 _)
    have HM := Lib.hid (show presV ks az ch = [] by rw [presV_dead (hde.1 hd), presGo_has hau h])
    rw [hd] at c2
    clear g hf hin hde hd h hKO hup hau hR
    go_enter Try.func62, Try.ntmps62
    go_wp2_with (go_at_call 87; refine (G.out _ rx).mono ?_; rintro e w3 ⟨rfl, hb3⟩; have hB3 := bal hb3 (.cells #[.int .i64 (i : Int), .bool sh] 78); have e2 := (hB3.cell (p := ⟨b, _, none⟩) hb).trans c2; have hb4 := Nat.lt_of_lt_of_le hb hB3.size)
    go_ret
    exact RLP.mk HM.out.symm (by simp) (Own.nilv (e := encPress) (s := 2) _ (fun _ => rfl) w.heap.size 78) hB3
  · rw [show M_pressOf ks ch = ((0, false), false) by unfold M_pressOf; rw [if_neg h]] at g
    have G := Lib.hid g
    have HM := Lib.hid (show presV ks az ch = R by rw [presV_not h, hR])
    clear g h hKO hup hau hR
    go_enter Try.func62, Try.ntmps62
    go_wp2_with fail
    refine (G.out _ rx).mono ?_
    rintro e w3 ⟨rfl, hb3⟩
    have hbL := bal hb3 (.cells #[.int .i64 0, .bool false] 78)
    go_wp2_with fail
    have hyl : az.length ≤ 20 := HKO.out.1.2
    go_loopg [32] az.length (fun g is wr => ∃ k : Nat, k ≤ az.length ∧ g = az.length - k ∧ presGo ks ch (az.drop k) = R ∧ Below w.heap.size w wr ∧ is = .int .i64 k)
    case atStart => exact ⟨0, Nat.zero_le _, rfl, HP.out.symm, hbL, rfl⟩
    case round =>
      obtain ⟨k, hkk, hg, hgo, hbw, rfl⟩ := hrel
      have HG := Lib.hid hg
      clear hg
      by_cases hlt : k < az.length
      · obtain ⟨b8, off8, hA, hb8, a0, a1, a2⟩ := (ry.below hbw).at3 (f := fun x : TAccent => .string x.1) (g := fun x : TAccent => .string x.2.1) (i := fun x : TAccent => .string x.2.2) hlt
        subst hA
        rw [pg_step ks ch az k hlt] at hgo
        have hacc := (HKO.out.2.2 k hlt).1
        obtain ⟨a, ha⟩ : ∃ a, az[k] = a := ⟨_, rfl⟩
        rw [ha] at a0 a1 a2 hgo hacc
        clear ha
        obtain ⟨u1, u2, u3⟩ := a
        simp only at a0 a1 a2 hgo
        have h1 : HasL ks u1 := hacc.1.1
        have h2 : HasL ks u2 := hacc.2.1.1
        clear hacc
        have k1 : (0 : Int) ≤ (k : Int) := by omega
        have k2 : (k : Int) < (az.length : Int) := by omega
        by_cases he : u3 = ch
        · have te := seq_true he
          rw [if_pos he] at hgo
          obtain ⟨f1, n1, hf1⟩ : ∃ f1 n1, findL ks u1 = (f1, n1) := ⟨_, _, rfl⟩
          obtain ⟨f2, n2, hf2⟩ : ∃ f2 n2, findL ks u2 = (f2, n2) := ⟨_, _, rfl⟩
          rw [hf1, hf2] at hgo
          have g1 := fun (w' : World) (r : Row w' A encKey 3 ks) => pressOf_any _ c ks hx HKO.out.2.1 u1 w' r
          have g2 := fun (w' : World) (r : Row w' A encKey 3 ks) => pressOf_any _ c ks hx HKO.out.2.1 u2 w' r
          rw [show M_pressOf ks u1 = ((f1, n1), true) by unfold M_pressOf; rw [if_pos h1, hf1]] at g1
          rw [show M_pressOf ks u2 = ((f2, n2), true) by unfold M_pressOf; rw [if_pos h2, hf2]] at g2
          have G1 := Lib.hid g1
          have G2 := Lib.hid g2
          have HF := Lib.hid hgo
          obtain ⟨W1, hW1⟩ : ∃ W1, W1 = wr.alloc (.cells #[.string u1, .string u2, .string u3] 81) := ⟨_, rfl⟩
          have n0 : W1.cell? ⟨wr.heap.size, 0, none⟩ = some (.string u1) := by rw [hW1]; simp [go_sem]
          have n1' : W1.cell? ⟨wr.heap.size, 1, none⟩ = some (.string u2) := by rw [hW1]; simp [go_sem]
          have n2' : W1.cell? ⟨wr.heap.size, 2, none⟩ = some (.string u3) := by rw [hW1]; simp [go_sem]
          have nlt : wr.heap.size < W1.heap.size := by rw [hW1]; simp
          have hB1 : Below w.heap.size w W1 := by rw [hW1]; exact bal hbw _
          have HW1 := Lib.hid hW1
          clear g1 g2 hf1 hf2 hgo he h1 h2 hW1
          go_wp2_with fail
          rw [← HW1.out]
          have nlt0 := nlt
          go_wp2_with (first | (go_at_call_of 87 (u1); refine (G1.out _ (rx.below hB1)).mono ?_; rintro e w5 ⟨rfl, hb5⟩; have hB5 := bal hb5 (.cells #[.int .i64 f1, .bool n1] 78); have m1 := (hB5.cell (p := ⟨wr.heap.size, _, none⟩) nlt).trans n1'; have nlt5 := Nat.lt_of_lt_of_le nlt hB5.size; have hB6 := hB1.trans (hB5.mono hB1.size)) | (go_at_call_of 87 (u2); refine (G2.out _ (rx.below hB6)).mono ?_; rintro e w7 ⟨rfl, hb7⟩; have hB7 := bal hb7 (.cells #[.int .i64 f2, .bool n2] 78); obtain ⟨z1, ⟨z2, z3⟩, z4, z5⟩ := (AtPr.new w5 78 (f1, n1)).next hB7 (AtPr.new w5 78 (f1, n1)).1; have hB8 := hB6.trans (hB7.mono hB6.size)))
          go_ret
          exact RLP.mk (HM.out.trans HF.out.symm).symm (by simp) (Own.litAt (e := encPress) (s := 2) _ (fun _ => rfl) w.heap.size 78 hB8.size [(f1, n1), (f2, n2)] (by unfold maxLen; simp) (by simp)) (bal hB8 _)
        · have te := seq_false he
          rw [if_neg he] at hgo
          have HF := Lib.hid hgo
          clear hgo he
          go_wp2_with fail
          go_roundg (az.length - (k + 1))
          case measure => rw [HG.out]; omega
          case rel => exact ⟨k + 1, by omega, rfl, HF.out, bal hbw _, by go_num⟩
      · have HF := Lib.hid (show presV ks az ch = [] by rw [HM.out, ← hgo, List.drop_of_length_le (by omega)]; rfl)
        go_wp2_with fail
        go_ret
        exact RLP.mk HF.out.symm (by simp) (Own.nilv (e := encPress) (s := 2) wr (fun _ => rfl) w.heap.size 78) hbw
end Go.Proofs.Yteigdlgijdmfkaa
