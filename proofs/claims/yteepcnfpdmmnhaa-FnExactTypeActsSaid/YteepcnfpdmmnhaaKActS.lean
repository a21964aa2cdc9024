/-
  KActS: contracts of markActS, heldActS. Printed by wip/gen_marks.py.
-/
import Derived.Test.YteepcnfpdmmnhaaMarksB
import Derived.Test.YteepcnfpdmmnhaaTAct
import Derived.Test.YteepcnfpdmmnhaaMText
namespace Go.Proofs.Yteepcnfpdmmnhaa
open Go.RowKit
set_option linter.unusedVariables false
attribute [local go_sem ↓] Go.wp_at_zero Go.wp_at_succ
def mkActS (k : Int) : TAct := (k, mtext (k + 1))
def marksActS (k : Int) (n : Nat) : List TAct := (List.range n).map fun i => mkActS (k + 2 * ((i : Nat) : Int))
theorem marksActS_len (k : Int) (n : Nat) : (marksActS k n).length = n := by unfold marksActS; simp
theorem marksActS_get (k : Int) (n i : Nat) (h : i < n) : (marksActS k n)[i]'(by rw [marksActS_len]; exact h) = mkActS (k + 2 * ((i : Nat) : Int)) := by unfold marksActS; simp
set_option maxHeartbeats 3200000 in
set_option maxRecDepth 10000 in
theorem markActS_any {base : Nat} (v : Value) (ys : List TAct) (hl : ys.length ≤ 1048576) (k : Int) (h0 : 1 ≤ k) (h9 : k ≤ 4398046511104) (w : World) (ho : Own w base 142 encAct 2 v ys) :
    Calls Try.prog 65 #[v, .int .i64 k] w fun e w' => ∃ r : Int, e = .returned (.int .i64 r) ∧ (r = k + 2 * (ys.length : Int) ∧ 1 ≤ r) ∧ Own w' base 142 encAct 2 v (marksActS k ys.length) ∧ w.grownBy w' v.ownBlock := by
  rcases Nat.eq_zero_or_pos ys.length with hz | hp
  · have hnil : ys = [] := List.eq_nil_of_length_eq_zero hz
    subst hnil
    obtain ⟨A, c, rfl, _, _⟩ := ho.form
    have HO := Lib.hid ho
    clear ho hz
    go_enter Try.func65, Try.ntmps65
    go_wp2
    go_loopg [1, 5] 0 (fun g ks is wr => g = 0 ∧ wr = w ∧ ks = .int .i64 k ∧ is = .int .i64 0)
    case atStart => exact ⟨rfl, rfl, rfl, rfl⟩
    case round =>
      obtain ⟨hg, rfl, rfl, rfl⟩ := hrel
      go_wp2
      go_ret
      exact ⟨_, rfl, ⟨by simp, h0⟩, HO.out, grown_of_below (Below.refl _ _) _⟩
  obtain ⟨b, cap, rfl⟩ := own_some ho hp
  go_enter Try.func65, Try.ntmps65
  go_wp2
  go_loopg [1, 5] ys.length (fun g ks is wr => ∃ (i : Nat) (zs : List TAct), i ≤ ys.length ∧ g = ys.length - i ∧ zs.length = ys.length ∧ zs.take i = (marksActS k ys.length).take i ∧ Own wr base 142 encAct 2 (.slice (some ⟨b, 0, none⟩) ys.length cap) zs ∧ w.grownBy wr (some b) ∧ ks = .int .i64 (k + 2 * (i : Int)) ∧ is = .int .i64 i)
  case atStart => exact ⟨0, ys, Nat.zero_le _, rfl, rfl, by simp, ho, grown_of_below (Below.refl _ _) _, by go_num, rfl⟩
  case round =>
    obtain ⟨i, zs, hi, hg, hzl, htk, hown, hgr, rfl, rfl⟩ := hrel
    have HG := Lib.hid hg
    have HZ := Lib.hid hzl
    have HT := Lib.hid htk
    clear hg hzl htk
    by_cases hlt : i < ys.length
    · have hiz : i < zs.length := by rw [HZ.out]; exact hlt
      have hI : (i : Int) < 1048576 := by omega
      obtain ⟨K, hK⟩ : ∃ K, k + 2 * (i : Int) = K := ⟨_, rfl⟩
      rw [hK]
      have hK0 : 1 ≤ K := by omega
      have hK9 : K ≤ 4398049656832 := by omega
      have HK1 := Lib.hid (show 1 ≤ K + 1 ∧ K + 1 ≤ 4398049656832 from by omega)
      have HK := Lib.hid hK
      clear hK
      have d0 : wr.cell? ⟨b, i * 2, none⟩ = some (.int .i64 zs[i].1) := by have := hown.cell (j := 0) hiz rfl; simpa using this
      have zf0 := hown.frozen (i * 2)
      have hl1 : i < (zs.set i (K, zs[i].2)).length := by rw [List.length_set]; exact hiz
      have o1 := hown.store (k := i) (j := 0) (u := .int .i64 K) (x' := (K, zs[i].2)) hiz (by omega) rfl
      have o1' : Own (wr.setCell ⟨b, i * 2, none⟩ (.int .i64 K)) base 142 encAct 2 (.slice (some ⟨b, 0, none⟩) ys.length cap) (zs.set i (K, zs[i].2)) := by simpa using o1
      have HO1 := Lib.hid o1'
      clear o1 o1'
      go_wp2_with (go_at_call 95; go_loud (refine (markText_any (K + 1) HK1.out.1 HK1.out.2 _).mono ?_; rintro e w5 ⟨rfl, hb5⟩; have o5 := HO1.out.below hb5; have d5 : w5.cell? ⟨b, i * 2 + 1, none⟩ = some (.string zs[i].2) := (by have := o5.cell (j := 1) (k := i) (u := .string zs[i].2) hl1 (by simp [encAct]); simpa using this); have zf5 := o5.frozen (i * 2 + 1)))
      have HO := Lib.hid (o5.store (k := i) (j := 1) (u := .string (mtext (K + 1))) (x' := (K, mtext (K + 1))) hl1 (by omega) (by simp [encAct]))
      have HGr := Lib.hid (((hgr.trans (grown_set wr b (i * 2) (.int .i64 K))).trans (grown_of_below hb5 (some b))).trans (grown_set w5 b (i * 2 + 1) (.string (mtext (K + 1)))))
      go_roundg (ys.length - (i + 1))
      case measure => rw [HG.out]; omega
      case rel =>
        refine ⟨i + 1, zs.set i ((K, mtext (K + 1))), by omega, rfl, by rw [List.length_set]; exact HZ.out, ?_, by simpa using HO.out, HGr.out, by have := HK.out; go_num, by go_num⟩
        rw [take_set_app zs i _ hiz, List.take_succ_eq_append_getElem (by rw [marksActS_len]; exact hlt), marksActS_get k _ i hlt, HT.out, HK.out]
        rfl
    · have htk := HT.out
      rw [List.take_of_length_le (by rw [HZ.out]; omega), List.take_of_length_le (by rw [marksActS_len]; omega)] at htk
      rw [htk] at hown
      have hI : (i : Int) = ys.length := by omega
      have HI := Lib.hid hI
      have HO := Lib.hid hown
      clear htk hI hown
      go_wp2_with fail
      go_ret
      exact ⟨_, rfl, ⟨by rw [HI.out], by omega⟩, HO.out, hgr⟩
end Go.Proofs.Yteepcnfpdmmnhaa
