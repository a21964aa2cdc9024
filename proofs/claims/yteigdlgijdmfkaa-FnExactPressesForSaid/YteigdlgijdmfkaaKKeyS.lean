/-
  KKeyS: contract of markKeyS. Printed by wip/gen_marks3.py.
-/
import Derived.Test.YteigdlgijdmfkaaMarksB
import Derived.Test.YteigdlgijdmfkaaTKey
import Derived.Test.YteigdlgijdmfkaaMText
namespace Go.Proofs.Yteigdlgijdmfkaa
open Go.RowKit
set_option linter.unusedVariables false
attribute [local go_sem ↓] Go.wp_at_zero Go.wp_at_succ
def mkKeyS (k : Int) : TKey := (mtext k, mtext (k + 1), ((k + 1 + 1) % 3 == 0))
def marksKeyS (k : Int) (n : Nat) : List TKey := (List.range n).map fun i => mkKeyS (k + 3 * ((i : Nat) : Int))
theorem marksKeyS_len (k : Int) (n : Nat) : (marksKeyS k n).length = n := by unfold marksKeyS; simp
theorem marksKeyS_get (k : Int) (n i : Nat) (h : i < n) : (marksKeyS k n)[i]'(by rw [marksKeyS_len]; exact h) = mkKeyS (k + 3 * ((i : Nat) : Int)) := by unfold marksKeyS; simp
set_option maxHeartbeats 1200000 in
set_option maxRecDepth 10000 in
theorem markKeyS_any {base : Nat} (v : Value) (ys : List TKey) (hl : ys.length ≤ 1048576) (k : Int) (h0 : 1 ≤ k) (h9 : k ≤ 4398046511104) (w : World) (ho : Own w base 80 encKey 3 v ys) :
    Calls Try.prog 23 #[v, .int .i64 k] w fun e w' => ∃ r : Int, e = .returned (.int .i64 r) ∧ (r = k + 3 * (ys.length : Int) ∧ 1 ≤ r) ∧ Own w' base 80 encKey 3 v (marksKeyS k ys.length) ∧ w.grownBy w' v.ownBlock := by
  rcases Nat.eq_zero_or_pos ys.length with hz | hp
  · have hnil : ys = [] := List.eq_nil_of_length_eq_zero hz
    subst hnil
    obtain ⟨A, c, rfl, _, _⟩ := ho.form
    have HO := Lib.hid ho
    clear ho hz
    go_enter Try.func23, Try.ntmps23
    go_wp2
    go_loopg [1, 5] 0 (fun g ks is wr => g = 0 ∧ wr = w ∧ ks = .int .i64 k ∧ is = .int .i64 0)
    case atStart => exact ⟨rfl, rfl, rfl, rfl⟩
    case round =>
      obtain ⟨hg, rfl, rfl, rfl⟩ := hrel
      go_wp2
      go_ret
      exact ⟨_, rfl, ⟨by simp, h0⟩, HO.out, grown_of_below (Below.refl _ _) _⟩
  obtain ⟨b, cap, rfl⟩ := own_some ho hp
  go_enter Try.func23, Try.ntmps23
  go_wp2
  go_loopg [1, 5] ys.length (fun g ks is wr => ∃ (i : Nat) (zs : List TKey), i ≤ ys.length ∧ g = ys.length - i ∧ zs.length = ys.length ∧ zs.take i = (marksKeyS k ys.length).take i ∧ Own wr base 80 encKey 3 (.slice (some ⟨b, 0, none⟩) ys.length cap) zs ∧ w.grownBy wr (some b) ∧ ks = .int .i64 (k + 3 * (i : Int)) ∧ is = .int .i64 i)
  case atStart => exact ⟨0, ys, Nat.zero_le _, rfl, rfl, by simp, ho, grown_of_below (Below.refl _ _) _, by go_num, rfl⟩
  case round =>
    obtain ⟨i, zs, hi, hg, hzl, htk, hown, hgr, rfl, rfl⟩ := hrel
    have HG := Lib.hid hg
    have HZ := Lib.hid hzl
    have HT := Lib.hid htk
    clear hg hzl htk
    by_cases hlt : i < ys.length
    · have hiz : i < zs.length := by rw [HZ.out]; exact hlt
      have hI : (i : Int) < 1048576 := by omega
      obtain ⟨K, hK⟩ : ∃ K, k + 3 * (i : Int) = K := ⟨_, rfl⟩
      rw [hK]
      have hK0 : 1 ≤ K := by omega
      have hK9 : K ≤ 4398049656830 := by omega
      have HK0 := Lib.hid (show 1 ≤ K ∧ K ≤ 4398049656832 from by omega)
      obtain ⟨K1, hK1⟩ : ∃ K1, K + 1 = K1 := ⟨_, rfl⟩
      obtain ⟨K2, hK2⟩ : ∃ K2, K1 + 1 = K2 := ⟨_, rfl⟩
      have HK1 := Lib.hid (show 1 ≤ K1 ∧ K1 ≤ 4398049656832 from by omega)
      have HK2 := Lib.hid (show 1 ≤ K2 ∧ K2 ≤ 4398049656832 from by omega)
      have HKK := Lib.hid (And.intro hK1 hK2)
      have y1 : K1 ≤ 4398049656832 := HK1.out.2
      have y2 : K2 ≤ 4398049656832 := HK2.out.2
      have y3 : 1 ≤ K1 := HK1.out.1
      have y4 : 1 ≤ K2 := HK2.out.1
      have ht : (K2.tmod 3 == 0) = (K2 % 3 == 0) := by rw [Int.tmod_eq_emod_of_nonneg (by omega)]
      obtain ⟨Bq, hBq⟩ : ∃ Bq, (K2 % 3 == 0) = Bq := ⟨_, rfl⟩
      rw [hBq] at ht
      have HBq := Lib.hid hBq
      have HK := Lib.hid hK
      clear hK
      obtain ⟨z, hz⟩ : ∃ z, zs[i] = z := ⟨_, rfl⟩
      have HZi := Lib.hid hz
      obtain ⟨z1, z2, z3⟩ := z
      have hl1 : ∀ x, i < (zs.set i x).length := fun x => by rw [List.length_set]; exact hiz
      have hg1 : ∀ x, (zs.set i x)[i]'(hl1 x) = x := fun x => by simp
      clear hz
      have HL1 := Lib.hid hl1
      have HG1 := Lib.hid hg1
      have d0 : wr.cell? ⟨b, i * 3, none⟩ = some (.string z1) := by have := hown.cell (j := 0) (u := .string z1) hiz (by rw [HZi.out]; rfl); simpa using this
      have zf0 := hown.frozen (i * 3)
      go_wp2_with (first | (go_at_call_of 63 (K); refine (markText_any K HK0.out.1 HK0.out.2 _).mono ?_; rintro e w5 ⟨rfl, hb5⟩; have o5 := hown.below hb5; have d5 : w5.cell? ⟨b, i * 3, none⟩ = some (.string z1) := (by have := o5.cell (j := 0) (u := .string z1) hiz (by rw [HZi.out]; rfl); simpa using this); have zf5 := o5.frozen (i * 3); have p5 : Own (w5.setCell ⟨b, i * 3, none⟩ (.string (mtext K))) base 80 encKey 3 (.slice (some ⟨b, 0, none⟩) ys.length cap) (zs.set i (mtext K, z2, z3)) := (by have := o5.store (k := i) (j := 0) (u := .string (mtext K)) (x' := (mtext K, z2, z3)) hiz (by omega) (by rw [HZi.out]; rfl); simpa using this); have P5 := Lib.hid p5; clear p5) | (go_at_call_of 63 (K1); refine (markText_any (K1) HK1.out.1 HK1.out.2 _).mono ?_; rintro e w6 ⟨rfl, hb6⟩; have o6 := P5.out.below hb6; have d6 : w6.cell? ⟨b, i * 3 + 1, none⟩ = some (.string z2) := (by have := o6.cell (k := i) (j := 1) (u := .string z2) (HL1.out _) (by rw [HG1.out]; rfl); simpa using this); have zf6 := o6.frozen (i * 3 + 1); have p6 : Own (w6.setCell ⟨b, i * 3 + 1, none⟩ (.string (mtext K1))) base 80 encKey 3 (.slice (some ⟨b, 0, none⟩) ys.length cap) (zs.set i (mtext K, mtext K1, z3)) := (by have := o6.store (k := i) (j := 1) (u := .string (mtext K1)) (x' := (mtext K, mtext K1, z3)) (HL1.out _) (by omega) (by rw [HG1.out]; rfl); simpa using this); have d7 : (w6.setCell ⟨b, i * 3 + 1, none⟩ (.string (mtext K1))).cell? ⟨b, i * 3 + 2, none⟩ = some (.bool (z3)) := (by have := p6.cell (k := i) (j := 2) (u := .bool (z3)) (HL1.out _) (by rw [HG1.out]; rfl); simpa using this); have zf7 := p6.frozen (i * 3 + 2); have P6 := Lib.hid p6; clear p6))
      have HO := Lib.hid (show Own ((w6.setCell ⟨b, i * 3 + 1, none⟩ (.string (mtext K1))).setCell ⟨b, i * 3 + 2, none⟩ (.bool (Bq))) base 80 encKey 3 (.slice (some ⟨b, 0, none⟩) ys.length cap) (zs.set i (mtext K, mtext K1, Bq)) from by have := P6.out.store (k := i) (j := 2) (u := .bool (Bq)) (x' := (mtext K, mtext K1, Bq)) (HL1.out _) (by omega) (by rw [HG1.out]; rfl); simpa using this)
      have g1 := ((hgr.trans (grown_of_below hb5 (some b))).trans (grown_set w5 b (i * 3) (.string (mtext K))))
      have g2 := ((g1.trans (grown_of_below hb6 (some b))).trans (grown_set w6 b (i * 3 + 1) (.string (mtext K1))))
      have HGr := Lib.hid (g2.trans (grown_set _ b (i * 3 + 2) (.bool (Bq))))
      go_roundg (ys.length - (i + 1))
      case measure => rw [HG.out]; omega
      case rel =>
        refine ⟨i + 1, zs.set i (mtext K, mtext K1, Bq), by omega, rfl, by rw [List.length_set]; exact HZ.out, ?_, by simpa using HO.out, by simpa using HGr.out, by have := HK.out; have := HKK.out; go_num, by go_num⟩
        rw [take_set_app zs i _ hiz, List.take_succ_eq_append_getElem (by rw [marksKeyS_len]; exact hlt), marksKeyS_get k _ i hlt, HT.out, HK.out]
        unfold mkKeyS; rw [HKK.out.1, HKK.out.2, HBq.out]
    · have htk := HT.out
      rw [List.take_of_length_le (by rw [HZ.out]; omega), List.take_of_length_le (by rw [marksKeyS_len]; omega)] at htk
      rw [htk] at hown
      have hI : (i : Int) = ys.length := by omega
      have HI := Lib.hid hI
      have HO := Lib.hid hown
      clear htk hI hown
      go_wp2_with fail
      go_ret
      exact ⟨_, rfl, ⟨by rw [HI.out], by omega⟩, HO.out, hgr⟩
end Go.Proofs.Yteigdlgijdmfkaa
