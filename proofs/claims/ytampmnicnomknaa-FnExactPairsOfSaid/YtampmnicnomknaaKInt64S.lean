/-
  KInt64S: contracts of markInt64S, heldInt64S. Printed by wip/gen_marks.py.
-/
import Derived.Test.YtampmnicnomknaaMarksB
namespace Go.Proofs.Ytampmnicnomknaa
open Go.RowKit
set_option linter.unusedVariables false
attribute [local go_sem ↓] Go.wp_at_zero Go.wp_at_succ
def mkInt64S (k : Int) : Int := k
def marksInt64S (k : Int) (n : Nat) : List Int := (List.range n).map fun i => mkInt64S (k + ((i : Nat) : Int))
theorem marksInt64S_len (k : Int) (n : Nat) : (marksInt64S k n).length = n := by unfold marksInt64S; simp
theorem marksInt64S_get (k : Int) (n i : Nat) (h : i < n) : (marksInt64S k n)[i]'(by rw [marksInt64S_len]; exact h) = mkInt64S (k + ((i : Nat) : Int)) := by unfold marksInt64S; simp
set_option maxHeartbeats 3200000 in
set_option maxRecDepth 10000 in
theorem markInt64S_any {base : Nat} (v : Value) (ys : List Int) (hl : ys.length ≤ 1048576) (k : Int) (h0 : 1 ≤ k) (h9 : k ≤ 4398046511104) (w : World) (ho : Own w base 2 encInt 1 v ys) :
    Calls Try.prog 14 #[v, .int .i64 k] w fun e w' => ∃ r : Int, e = .returned (.int .i64 r) ∧ (r = k + (ys.length : Int) ∧ 1 ≤ r) ∧ Own w' base 2 encInt 1 v (marksInt64S k ys.length) ∧ w.grownBy w' v.ownBlock := by
  rcases Nat.eq_zero_or_pos ys.length with hz | hp
  · have hnil : ys = [] := List.eq_nil_of_length_eq_zero hz
    subst hnil
    obtain ⟨A, c, rfl, _, _⟩ := ho.form
    have HO := Lib.hid ho
    clear ho hz
    go_enter Try.func14, Try.ntmps14
    go_wp2
    go_loopg [1, 5] 0 (fun g ks is wr => g = 0 ∧ wr = w ∧ ks = .int .i64 k ∧ is = .int .i64 0)
    case atStart => exact ⟨rfl, rfl, rfl, rfl⟩
    case round =>
      obtain ⟨hg, rfl, rfl, rfl⟩ := hrel
      go_wp2
      go_ret
      exact ⟨_, rfl, ⟨by simp, h0⟩, HO.out, grown_of_below (Below.refl _ _) _⟩
  obtain ⟨b, cap, rfl⟩ := own_some ho hp
  go_enter Try.func14, Try.ntmps14
  go_wp2
  go_loopg [1, 5] ys.length (fun g ks is wr => ∃ (i : Nat) (zs : List Int), i ≤ ys.length ∧ g = ys.length - i ∧ zs.length = ys.length ∧ zs.take i = (marksInt64S k ys.length).take i ∧ Own wr base 2 encInt 1 (.slice (some ⟨b, 0, none⟩) ys.length cap) zs ∧ w.grownBy wr (some b) ∧ ks = .int .i64 (k + (i : Int)) ∧ is = .int .i64 i)
  case atStart => exact ⟨0, ys, Nat.zero_le _, rfl, rfl, by simp, ho, grown_of_below (Below.refl _ _) _, by go_num, rfl⟩
  case round =>
    obtain ⟨i, zs, hi, hg, hzl, htk, hown, hgr, rfl, rfl⟩ := hrel
    have HG := Lib.hid hg
    have HZ := Lib.hid hzl
    have HT := Lib.hid htk
    clear hg hzl htk
    by_cases hlt : i < ys.length
    · have hiz : i < zs.length := by rw [HZ.out]; exact hlt
      have hI : (i : Int) < 1048576 := by omega
      obtain ⟨K, hK⟩ : ∃ K, k + (i : Int) = K := ⟨_, rfl⟩
      rw [hK]
      have hK0 : 1 ≤ K := by omega
      have hK9 : K ≤ 4398049656832 := by omega
      have HK1 := Lib.hid (show 1 ≤ K + 1 ∧ K + 1 ≤ 4398049656832 from by omega)
      have HK := Lib.hid hK
      clear hK
      have d0 : wr.cell? ⟨b, i, none⟩ = some (.int .i64 zs[i]) := by have := hown.cell (j := 0) hiz rfl; simpa using this
      have zf0 := hown.frozen (i)
      have HO := Lib.hid (hown.store1 (f := fun x : Int => .int .i64 x) hiz (K))
      have HGr := Lib.hid (hgr.trans (grown_set wr b (i) (.int .i64 (K))))
      go_wp2_with fail
      go_roundg (ys.length - (i + 1))
      case measure => rw [HG.out]; omega
      case rel =>
        refine ⟨i + 1, zs.set i (K), by omega, rfl, by rw [List.length_set]; exact HZ.out, ?_, by simpa using HO.out, HGr.out, by have := HK.out; go_num, by go_num⟩
        rw [take_set_app zs i _ hiz, List.take_succ_eq_append_getElem (by rw [marksInt64S_len]; exact hlt), marksInt64S_get k _ i hlt, HT.out, HK.out]
        rfl
    · have htk := HT.out
      rw [List.take_of_length_le (by rw [HZ.out]; omega), List.take_of_length_le (by rw [marksInt64S_len]; omega)] at htk
      rw [htk] at hown
      have hI : (i : Int) = ys.length := by omega
      have HI := Lib.hid hI
      have HO := Lib.hid hown
      clear htk hI hown
      go_wp2_with fail
      go_ret
      exact ⟨_, rfl, ⟨by rw [HI.out], by omega⟩, HO.out, hgr⟩
set_option maxHeartbeats 3200000 in
set_option maxRecDepth 10000 in
theorem heldInt64S_any (A : Option Addr) (c n : Nat) (hl : n ≤ 1048576) (k : Int) (h0 : 1 ≤ k) (h9 : k ≤ 4398046511104) (w : World) (rx : Row w A encInt 1 (marksInt64S k n)) :
    Calls Try.prog 15 #[.slice A n c, .int .i64 k] w fun e w' => ∃ r : Int, e = .returned (.int .i64 r) ∧ (r = k + (n : Int) ∧ 1 ≤ r) ∧ Below w.heap.size w w' := by
  go_enter Try.func15, Try.ntmps15
  go_wp2
  go_loopg [1, 5] n (fun g ks is wr => ∃ (i : Nat), i ≤ n ∧ g = n - i ∧ Below w.heap.size w wr ∧ ks = .int .i64 (k + (i : Int)) ∧ is = .int .i64 i)
  case atStart => exact ⟨0, Nat.zero_le _, rfl, Below.refl _ _, by go_num, rfl⟩
  case round =>
    obtain ⟨i, hi, hg, hbw, rfl, rfl⟩ := hrel
    have HG := Lib.hid hg
    clear hg
    by_cases hlt : i < n
    · have hI : (i : Int) < 1048576 := by omega
      have i1 : (0 : Int) ≤ (i : Int) := by omega
      have i2 : (i : Int) < (n : Int) := by omega
      have hmm := marksInt64S_get k n i hlt
      obtain ⟨Kv, hK⟩ : ∃ Kv, k + (i : Int) = Kv := ⟨_, rfl⟩
      rw [hK] at hmm ⊢
      have hK0 : 1 ≤ Kv := by omega
      have hK9 : Kv ≤ 4398049656832 := by omega
      have HK1 := Lib.hid (show 1 ≤ Kv + 1 ∧ Kv + 1 ≤ 4398049656832 from by omega)
      have HK0 := Lib.hid (show 1 ≤ Kv ∧ Kv ≤ 4398049656832 from by omega)
      have HK := Lib.hid hK
      clear hK
      obtain ⟨b, off, hA, hb, c0⟩ := (rx.below hbw).at1 (f := fun x : Int => .int .i64 x) (k := i) (by rw [marksInt64S_len]; exact hlt)
      subst hA
      rw [hmm] at c0
      unfold mkInt64S at c0
      clear hmm
      go_wp2_with fail
      go_roundg (n - (i + 1))
      case measure => rw [HG.out]; omega
      case rel => exact ⟨i + 1, by omega, rfl, hbw, by have := HK.out; go_num, by go_num⟩
    · have hI : (i : Int) = n := by omega
      have HI := Lib.hid hI
      clear hI
      go_wp2_with fail
      go_ret
      exact ⟨_, rfl, ⟨by rw [HI.out], by omega⟩, hbw⟩
end Go.Proofs.Ytampmnicnomknaa
