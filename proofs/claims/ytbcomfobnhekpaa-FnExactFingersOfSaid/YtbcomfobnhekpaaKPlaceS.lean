/-
  KPlaceS: contracts of markPlaceS, heldPlaceS. Printed by wip/gen_marks.py.
-/
import Derived.Test.YtbcomfobnhekpaaMarksB
import Derived.Test.YtbcomfobnhekpaaTPlace
namespace Go.Proofs.Ytbcomfobnhekpaa
open Go.RowKit
set_option linter.unusedVariables false
attribute [local go_sem ↓] Go.wp_at_zero Go.wp_at_succ
def mkPlaceS (k : Int) : TPlace := (k, k + 1, k + 2)
def marksPlaceS (k : Int) (n : Nat) : List TPlace := (List.range n).map fun i => mkPlaceS (k + 3 * ((i : Nat) : Int))
theorem marksPlaceS_len (k : Int) (n : Nat) : (marksPlaceS k n).length = n := by unfold marksPlaceS; simp
theorem marksPlaceS_get (k : Int) (n i : Nat) (h : i < n) : (marksPlaceS k n)[i]'(by rw [marksPlaceS_len]; exact h) = mkPlaceS (k + 3 * ((i : Nat) : Int)) := by unfold marksPlaceS; simp
set_option maxHeartbeats 3200000 in
set_option maxRecDepth 10000 in
theorem markPlaceS_any {base : Nat} (v : Value) (ys : List TPlace) (hl : ys.length ≤ 1048576) (k : Int) (h0 : 0 ≤ k) (h9 : k ≤ 1099511627776) (w : World) (ho : Own w base 133 encPlace 3 v ys) :
    Calls Try.prog 57 #[v, .int .i64 k] w fun e w' => ∃ r : Int, e = .returned (.int .i64 r) ∧ (r = k + 3 * (ys.length : Int) ∧ 0 ≤ r) ∧ Own w' base 133 encPlace 3 v (marksPlaceS k ys.length) ∧ w.grownBy w' v.ownBlock := by
  rcases Nat.eq_zero_or_pos ys.length with hz | hp
  · have hnil : ys = [] := List.eq_nil_of_length_eq_zero hz
    subst hnil
    obtain ⟨A, c, rfl, _, _⟩ := ho.form
    have HO := Lib.hid ho
    clear ho hz
    go_enter Try.func57, Try.ntmps57
    go_wp2
    go_loopg [1, 5] 0 (fun g ks is wr => g = 0 ∧ wr = w ∧ ks = .int .i64 k ∧ is = .int .i64 0)
    case atStart => exact ⟨rfl, rfl, rfl, rfl⟩
    case round =>
      obtain ⟨hg, rfl, rfl, rfl⟩ := hrel
      go_wp2
      go_ret
      exact ⟨_, rfl, ⟨by simp, h0⟩, HO.out, grown_of_below (Below.refl _ _) _⟩
  obtain ⟨b, cap, rfl⟩ := own_some ho hp
  go_enter Try.func57, Try.ntmps57
  go_wp2
  go_loopg [1, 5] ys.length (fun g ks is wr => ∃ (i : Nat) (zs : List TPlace), i ≤ ys.length ∧ g = ys.length - i ∧ zs.length = ys.length ∧ zs.take i = (marksPlaceS k ys.length).take i ∧ Own wr base 133 encPlace 3 (.slice (some ⟨b, 0, none⟩) ys.length cap) zs ∧ w.grownBy wr (some b) ∧ ks = .int .i64 (k + 3 * (i : Int)) ∧ is = .int .i64 i)
  case atStart => exact ⟨0, ys, Nat.zero_le _, rfl, rfl, by simp, ho, grown_of_below (Below.refl _ _) _, by go_num, rfl⟩
  case round =>
    obtain ⟨i, zs, hi, hg, hzl, htk, hown, hgr, rfl, rfl⟩ := hrel
    have HG := Lib.hid hg
    have HZ := Lib.hid hzl
    have HT := Lib.hid htk
    clear hg hzl htk
    by_cases hlt : i < ys.length
    · have hiz : i < zs.length := by rw [HZ.out]; exact hlt
      have hI : (i : Int) < 1048576 := by omega
      obtain ⟨K, hK⟩ : ∃ K, k + 3 * (i : Int) = K := ⟨_, rfl⟩
      rw [hK]
      have hK0 : 0 ≤ K := by omega
      have hK9 : K ≤ 1099514773504 := by omega
      have HK := Lib.hid hK
      clear hK
      have d0 : wr.cell? ⟨b, i * 3, none⟩ = some (.int .i64 zs[i].1) := by have := hown.cell (j := 0) hiz rfl; simpa using this
      have zf0 := hown.frozen (i * 3)
      have d1 : wr.cell? ⟨b, i * 3 + 1, none⟩ = some (.int .i64 zs[i].2.1) := by have := hown.cell (j := 1) hiz rfl; simpa using this
      have zf1 := hown.frozen (i * 3 + 1)
      have d2 : wr.cell? ⟨b, i * 3 + 2, none⟩ = some (.int .i64 zs[i].2.2) := by have := hown.cell (j := 2) hiz rfl; simpa using this
      have zf2 := hown.frozen (i * 3 + 2)
      have HO := Lib.hid (hown.store3 (f := fun x : TPlace => .int .i64 x.1) (i := fun x : TPlace => .int .i64 x.2.1) (l := fun x : TPlace => .int .i64 x.2.2) hiz ((K, K + 1, K + 1 + 1)))
      have HGr := Lib.hid (((hgr.trans (grown_set wr b (i * 3) (.int .i64 (K)))).trans (grown_set (wr.setCell ⟨b, i * 3, none⟩ (.int .i64 (K))) b (i * 3 + 1) (.int .i64 (K + 1)))).trans (grown_set ((wr.setCell ⟨b, i * 3, none⟩ (.int .i64 (K))).setCell ⟨b, i * 3 + 1, none⟩ (.int .i64 (K + 1))) b (i * 3 + 2) (.int .i64 (K + 1 + 1))))
      go_wp2_with fail
      go_roundg (ys.length - (i + 1))
      case measure => rw [HG.out]; omega
      case rel =>
        refine ⟨i + 1, zs.set i ((K, K + 1, K + 1 + 1)), by omega, rfl, by rw [List.length_set]; exact HZ.out, ?_, by simpa using HO.out, HGr.out, by have := HK.out; go_num, by go_num⟩
        rw [take_set_app zs i _ hiz, List.take_succ_eq_append_getElem (by rw [marksPlaceS_len]; exact hlt), marksPlaceS_get k _ i hlt, HT.out, HK.out]
        rw [Int.add_assoc K 1 1]; rfl
    · have htk := HT.out
      rw [List.take_of_length_le (by rw [HZ.out]; omega), List.take_of_length_le (by rw [marksPlaceS_len]; omega)] at htk
      rw [htk] at hown
      have hI : (i : Int) = ys.length := by omega
      have HI := Lib.hid hI
      have HO := Lib.hid hown
      clear htk hI hown
      go_wp2_with fail
      go_ret
      exact ⟨_, rfl, ⟨by rw [HI.out], by omega⟩, HO.out, hgr⟩
end Go.Proofs.Ytbcomfobnhekpaa
