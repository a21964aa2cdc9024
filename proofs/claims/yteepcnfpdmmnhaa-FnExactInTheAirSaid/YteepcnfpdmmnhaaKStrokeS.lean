/-
  KStrokeS: contracts of markStrokeS, heldStrokeS. Printed by wip/gen_marks.py.
-/
import Derived.Test.YteepcnfpdmmnhaaMarksB
import Derived.Test.YteepcnfpdmmnhaaTStroke
namespace Go.Proofs.Yteepcnfpdmmnhaa
open Go.RowKit
set_option linter.unusedVariables false
attribute [local go_sem ↓] Go.wp_at_zero Go.wp_at_succ
def mkStrokeS (k : Int) : TStroke := (k, k + 1)
def marksStrokeS (k : Int) (n : Nat) : List TStroke := (List.range n).map fun i => mkStrokeS (k + 2 * ((i : Nat) : Int))
theorem marksStrokeS_len (k : Int) (n : Nat) : (marksStrokeS k n).length = n := by unfold marksStrokeS; simp
theorem marksStrokeS_get (k : Int) (n i : Nat) (h : i < n) : (marksStrokeS k n)[i]'(by rw [marksStrokeS_len]; exact h) = mkStrokeS (k + 2 * ((i : Nat) : Int)) := by unfold marksStrokeS; simp
set_option maxHeartbeats 3200000 in
set_option maxRecDepth 10000 in
theorem markStrokeS_any {base : Nat} (v : Value) (ys : List TStroke) (hl : ys.length ≤ 1048576) (k : Int) (h0 : 1 ≤ k) (h9 : k ≤ 4398046511104) (w : World) (ho : Own w base 101 encStroke 2 v ys) :
    Calls Try.prog 20 #[v, .int .i64 k] w fun e w' => ∃ r : Int, e = .returned (.int .i64 r) ∧ (r = k + 2 * (ys.length : Int) ∧ 1 ≤ r) ∧ Own w' base 101 encStroke 2 v (marksStrokeS k ys.length) ∧ w.grownBy w' v.ownBlock := by
  rcases Nat.eq_zero_or_pos ys.length with hz | hp
  · have hnil : ys = [] := List.eq_nil_of_length_eq_zero hz
    subst hnil
    obtain ⟨A, c, rfl, _, _⟩ := ho.form
    have HO := Lib.hid ho
    clear ho hz
    go_enter Try.func20, Try.ntmps20
    go_wp2
    go_loopg [1, 5] 0 (fun g ks is wr => g = 0 ∧ wr = w ∧ ks = .int .i64 k ∧ is = .int .i64 0)
    case atStart => exact ⟨rfl, rfl, rfl, rfl⟩
    case round =>
      obtain ⟨hg, rfl, rfl, rfl⟩ := hrel
      go_wp2
      go_ret
      exact ⟨_, rfl, ⟨by simp, h0⟩, HO.out, grown_of_below (Below.refl _ _) _⟩
  obtain ⟨b, cap, rfl⟩ := own_some ho hp
  go_enter Try.func20, Try.ntmps20
  go_wp2
  go_loopg [1, 5] ys.length (fun g ks is wr => ∃ (i : Nat) (zs : List TStroke), i ≤ ys.length ∧ g = ys.length - i ∧ zs.length = ys.length ∧ zs.take i = (marksStrokeS k ys.length).take i ∧ Own wr base 101 encStroke 2 (.slice (some ⟨b, 0, none⟩) ys.length cap) zs ∧ w.grownBy wr (some b) ∧ ks = .int .i64 (k + 2 * (i : Int)) ∧ is = .int .i64 i)
  case atStart => exact ⟨0, ys, Nat.zero_le _, rfl, rfl, by simp, ho, grown_of_below (Below.refl _ _) _, by go_num, rfl⟩
  case round =>
    obtain ⟨i, zs, hi, hg, hzl, htk, hown, hgr, rfl, rfl⟩ := hrel
    have HG := Lib.hid hg
    have HZ := Lib.hid hzl
    have HT := Lib.hid htk
    clear hg hzl htk
    by_cases hlt : i < ys.length
    · have hiz : i < zs.length := by rw [HZ.out]; exact hlt
      have hI : (i : Int) < 1048576 := by omega
      obtain ⟨K, hK⟩ : ∃ K, k + 2 * (i : Int) = K := ⟨_, rfl⟩
      rw [hK]
      have hK0 : 1 ≤ K := by omega
      have hK9 : K ≤ 4398049656832 := by omega
      have HK1 := Lib.hid (show 1 ≤ K + 1 ∧ K + 1 ≤ 4398049656832 from by omega)
      have HK := Lib.hid hK
      clear hK
      have d0 : wr.cell? ⟨b, i * 2, none⟩ = some (.int .i64 zs[i].1) := by have := hown.cell (j := 0) hiz rfl; simpa using this
      have zf0 := hown.frozen (i * 2)
      have d1 : wr.cell? ⟨b, i * 2 + 1, none⟩ = some (.int .i64 zs[i].2) := by have := hown.cell (j := 1) hiz rfl; simpa using this
      have zf1 := hown.frozen (i * 2 + 1)
      have HO := Lib.hid (hown.store2 (f := fun x : TStroke => .int .i64 x.1) (i := fun x : TStroke => .int .i64 x.2) hiz ((K, K + 1)))
      have HGr := Lib.hid ((hgr.trans (grown_set wr b (i * 2) (.int .i64 (K)))).trans (grown_set (wr.setCell ⟨b, i * 2, none⟩ (.int .i64 (K))) b (i * 2 + 1) (.int .i64 (K + 1))))
      go_wp2_with fail
      go_roundg (ys.length - (i + 1))
      case measure => rw [HG.out]; omega
      case rel =>
        refine ⟨i + 1, zs.set i ((K, K + 1)), by omega, rfl, by rw [List.length_set]; exact HZ.out, ?_, by simpa using HO.out, HGr.out, by have := HK.out; go_num, by go_num⟩
        rw [take_set_app zs i _ hiz, List.take_succ_eq_append_getElem (by rw [marksStrokeS_len]; exact hlt), marksStrokeS_get k _ i hlt, HT.out, HK.out]
        rfl
    · have htk := HT.out
      rw [List.take_of_length_le (by rw [HZ.out]; omega), List.take_of_length_le (by rw [marksStrokeS_len]; omega)] at htk
      rw [htk] at hown
      have hI : (i : Int) = ys.length := by omega
      have HI := Lib.hid hI
      have HO := Lib.hid hown
      clear htk hI hown
      go_wp2_with fail
      go_ret
      exact ⟨_, rfl, ⟨by rw [HI.out], by omega⟩, HO.out, hgr⟩
end Go.Proofs.Yteepcnfpdmmnhaa
