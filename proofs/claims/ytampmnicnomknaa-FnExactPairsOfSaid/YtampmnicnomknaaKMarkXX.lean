/-
  KMarkXX: contracts of markInt64SS and heldInt64SS on a table of the call's own: the marks told to the number. Printed by wip/gen_marksxx.py.
-/
import Derived.Test.YtampmnicnomknaaKInt64SS
namespace Go.Proofs.Ytampmnicnomknaa
open Go.RowKit
set_option linter.unusedVariables false
attribute [local go_sem ↓] Go.wp_at_zero Go.wp_at_succ
def offK (k : Int) (xs : List (List Int)) (i : Nat) : Int := k + (((xs.take i).map List.length).sum : Nat)
theorem offK_zero (k : Int) (xs : List (List Int)) : offK k xs 0 = k := by unfold offK; simp
theorem offK_succ (k : Int) (xs : List (List Int)) (i : Nat) (h : i < xs.length) : offK k xs (i + 1) = offK k xs i + (xs[i].length : Int) := by
  unfold offK
  rw [List.take_succ_eq_append_getElem h, List.map_append, List.sum_append]
  simp
  omega
def marksSS (k : Int) (xs : List (List Int)) : List (List Int) := xs.mapIdx fun i r => marksInt64S (offK k xs i) r.length
theorem marksSS_len (k : Int) (xs : List (List Int)) : (marksSS k xs).length = xs.length := by unfold marksSS; simp
theorem marksSS_get (k : Int) (xs : List (List Int)) (i : Nat) (h : i < xs.length) : (marksSS k xs)[i]'(by rw [marksSS_len]; exact h) = marksInt64S (offK k xs i) xs[i].length := by unfold marksSS; simp
theorem Own.same {α : Type} {w : World} {base : Nat} {E : TypeId} {e : α → List Value} {s : Nat} {v : Value} {xs ys : List α} (h : Own w base E e s v xs) (hl : ys.length = xs.length) (hf : ys.flatMap e = xs.flatMap e) : Own w base E e s v ys := by
  refine ⟨h.1, ?_⟩
  rw [hl, hf]
  exact h.2
set_option maxHeartbeats 3200000 in
set_option maxRecDepth 10000 in
theorem markXX_any {base hi : Nat} {E : TypeId} (v : Value) (xs : List (List Int)) (hl : xs.length ≤ 1048576) (hu : ∀ r ∈ xs, r.length ≤ 1048576) (k : Int) (h0 : 1 ≤ k) (h9 : k ≤ 4398046511104 - 1099511627776) (w : World) (ho : OwnXX w base hi E 2 v xs) :
    Calls Try.prog 7 #[v, .int .i64 k] w fun e w' => e = .returned (.int .i64 (offK k xs xs.length)) ∧ OwnXX w' base hi E 2 v (marksSS k xs) ∧ Within base hi w w' := by
  obtain ⟨qs, hq1, hown, hin, hpw⟩ := ho
  obtain ⟨A, c, rfl, rr, _⟩ := hown.form
  have hql : qs.length = xs.length := by rw [← hq1]; simp
  have HQ := Lib.hid hq1
  have HIn := Lib.hid hin
  have HPw := Lib.hid hpw
  have HOwn := Lib.hid hown
  have hqx : ∀ i (h : i < qs.length) (h' : i < xs.length), qs[i].xs = xs[i] := fun i h h' => by
    have h2 : (xss qs)[i]? = xs[i]? := by rw [hq1]
    rw [List.getElem?_map, List.getElem?_eq_getElem h, List.getElem?_eq_getElem h'] at h2
    simpa using h2
  have HQx := Lib.hid hqx
  rw [hql] at hown ⊢
  have HQl := Lib.hid hql
  clear hq1 hin hpw hql hqx
  go_enter Try.func7, Try.ntmps7
  go_wp2
  go_loopg [1, 5] xs.length (fun g ks is wr => ∃ (i : Nat) (r : Int), i ≤ xs.length ∧ g = xs.length - i ∧ 1 ≤ r ∧ r ≤ k + 1048576 * (i : Int) ∧ r = offK k xs i ∧ Own wr base E encSl 1 (.slice A xs.length c) qs ∧ (∀ j (h : j < qs.length), Own wr base 2 encInt 1 (vSl qs[j]) (if j < i then marksInt64S (offK k xs j) qs[j].xs.length else qs[j].xs)) ∧ Within base hi w wr ∧ ks = .int .i64 r ∧ is = .int .i64 i)
  case atStart => exact ⟨0, k, Nat.zero_le _, rfl, h0, by omega, (offK_zero k xs).symm, hown, fun j h => by rw [if_neg (by omega)]; exact (HIn.out _ (List.getElem_mem h)).1, Within.refl _ _ _, rfl, rfl⟩
  case round =>
    obtain ⟨i, r, hi2, hg, hr1, hr9, hro, hown2, hrest, hwi, rfl, rfl⟩ := hrel
    have HG := Lib.hid hg
    have HRest := Lib.hid hrest
    have HRo := Lib.hid hro
    clear hg hrest hro
    by_cases hlt : i < xs.length
    · have hiq : i < qs.length := by rw [HQl.out]; exact hlt
      have hmem := List.getElem_mem hiq
      have ho5 := HRest.out i hiq
      rw [if_neg (Nat.lt_irrefl i)] at ho5
      have hlen : qs[i].xs.length ≤ 1048576 := hu qs[i].xs (by rw [← HQ.out]; exact List.mem_map_of_mem hmem)
      have hblk := (HIn.out _ hmem).2.2
      have HBlk := Lib.hid hblk
      obtain ⟨b, off, hA, hb, c0⟩ := (own_row hown2).at1 (f := fun q : Sl Int => .slice q.A q.xs.length q.c) hiq
      subst hA
      have HO5 := Lib.hid ho5
      have hr99 : r ≤ 4398046511104 := by omega
      have hcall := fun W => markInt64S_any (base := base) (vSl qs[i]) qs[i].xs hlen r hr1 hr99 W
      clear hblk ho5 hmem
      go_wp2_with (go_at_call 14; refine (hcall _ HO5.out).mono ?_; rintro e w5 ⟨r5, rfl, hr5, ho6, hg5⟩; have HR5 := Lib.hid hr5; have HO6 := Lib.hid ho6; clear hr5 ho6)
      have hr50 := HR5.out.2
      have hr59 : r5 ≤ k + 1048576 * ((i + 1 : Nat) : Int) := by have := HR5.out.1; omega
      go_roundg (xs.length - (i + 1))
      case measure => rw [HG.out]; omega
      case rel =>
        refine ⟨i + 1, r5, by omega, rfl, hr50, hr59, ?_, hown2.kept hg5 ?_, fun j hj => ?_, hwi.grown hg5 (fun g hgg => ⟨(HO5.out.2.lt g hgg).1, (HBlk.out g hgg).1⟩), rfl, by go_num⟩
        · rw [offK_succ k xs i hlt, ← HRo.out, HR5.out.1, HQx.out i hiq hlt]
        · cases hv : (vSl qs[i]).ownBlock with
          | none => cases hv2 : (Value.slice (some ⟨b, off, none⟩) xs.length c).ownBlock with
            | none => exact .inl rfl
            | some g => exact .inr (by simp)
          | some g => exact .inr (by intro hh; exact (HBlk.out g hv).2 (by rw [HQl.out]; exact hh))
        · by_cases hji : j = i
          · subst hji
            rw [if_pos (Nat.lt_succ_self _)]
            have := HO6.out
            rw [HRo.out] at this
            exact this
          · have hold := HRest.out j hj
            have e1 : (if j < i + 1 then marksInt64S (offK k xs j) qs[j].xs.length else qs[j].xs) = (if j < i then marksInt64S (offK k xs j) qs[j].xs.length else qs[j].xs) := by
              by_cases h1 : j < i
              · rw [if_pos h1, if_pos (by omega)]
              · rw [if_neg h1, if_neg (by omega)]
            rw [e1]
            refine hold.kept hg5 ?_
            have hp := List.pairwise_iff_getElem.1 HPw.out
            cases hv : (vSl qs[j]).ownBlock with
            | none => exact .inl rfl
            | some g =>
              refine .inr fun hh => ?_
              rcases Nat.lt_or_ge j i with h1 | h1
              · exact hp j i hj hiq h1 g hv hh.symm
              · exact hp i j hiq hj (by omega) g hh.symm hv
    · have hI : i = xs.length := by omega
      subst hI
      have HOwn2 := Lib.hid hown2
      clear hown2
      go_wp2
      go_ret
      refine ⟨congrArg (fun z => Ending.returned (.int .i64 z)) HRo.out, ⟨qs.mapIdx fun i q => ⟨q.A, q.c, marksInt64S (offK k xs i) q.xs.length⟩, ?_, ?_, ?_, ?_⟩, hwi⟩
      · apply List.ext_getElem
        · rw [marksSS_len]; simp [HQl.out]
        · intro i h1 h2
          have h3 : i < xs.length := by rw [marksSS_len] at h2; exact h2
          have h4 : i < qs.length := by rw [HQl.out]; exact h3
          rw [marksSS_get k xs i h3, ← HQx.out i h4 h3]
          simp
      · refine HOwn2.out.same (by simp) ?_
        rw [List.flatMap_def, List.flatMap_def]
        congr 1
        apply List.ext_getElem
        · simp
        · intro i h1 h2
          simp [encSl, marksInt64S_len]
      · intro q hq
        obtain ⟨i, hi3, rfl⟩ := List.getElem_of_mem hq
        have hi4 : i < qs.length := by simpa using hi3
        have h1 := HRest.out i hi4
        rw [if_pos (by rw [← HQl.out]; exact hi4)] at h1
        have h2 := HIn.out _ (List.getElem_mem hi4)
        simp only [List.getElem_mapIdx]
        refine ⟨?_, ?_, ?_⟩
        · have e2 : vSl (⟨qs[i].A, qs[i].c, marksInt64S (offK k xs i) qs[i].xs.length⟩ : Sl Int) = vSl qs[i] := by simp [vSl, marksInt64S_len]
          rw [e2]; exact h1
        · rw [marksInt64S_len]; exact h2.2.1
        · have e2 : vSl (⟨qs[i].A, qs[i].c, marksInt64S (offK k xs i) qs[i].xs.length⟩ : Sl Int) = vSl qs[i] := by simp [vSl, marksInt64S_len]
          rw [e2]
          have h3 := h2.2.2
          rw [HQl.out] at h3
          exact h3
      · rw [List.pairwise_iff_getElem]
        intro i j hi3 hj3 hij
        have hp := List.pairwise_iff_getElem.1 HPw.out
        have hi4 : i < qs.length := by simpa using hi3
        have hj4 : j < qs.length := by simpa using hj3
        have h1 := hp i j hi4 hj4 hij
        simp only [List.getElem_mapIdx]
        have e2 : ∀ (a : Nat) (q : Sl Int), vSl (⟨q.A, q.c, marksInt64S (offK k xs a) q.xs.length⟩ : Sl Int) = vSl q := fun a q => by simp [vSl, marksInt64S_len]
        rw [e2, e2]
        exact h1
set_option maxHeartbeats 3200000 in
set_option maxRecDepth 10000 in
theorem heldXX_any (A : Option Addr) (c : Nat) (xs : List (List Int)) (hl : xs.length ≤ 1048576) (hu : ∀ r ∈ xs, r.length ≤ 1048576) (k : Int) (h0 : 1 ≤ k) (h9 : k ≤ 4398046511104 - 1099511627776) (w : World) (rx : RowXX w A (marksSS k xs)) :
    Calls Try.prog 8 #[.slice A xs.length c, .int .i64 k] w fun e w' => e = .returned (.int .i64 (offK k xs xs.length)) ∧ Below w.heap.size w w' := by
  go_enter Try.func8, Try.ntmps8
  go_wp2
  go_loopg [1, 5] xs.length (fun g ks is wr => ∃ (i : Nat) (r : Int), i ≤ xs.length ∧ g = xs.length - i ∧ 1 ≤ r ∧ r ≤ k + 1048576 * (i : Int) ∧ r = offK k xs i ∧ Below w.heap.size w wr ∧ ks = .int .i64 r ∧ is = .int .i64 i)
  case atStart => exact ⟨0, k, Nat.zero_le _, rfl, h0, by omega, (offK_zero k xs).symm, Below.refl _ _, rfl, rfl⟩
  case round =>
    obtain ⟨i, r, hi2, hg, hr1, hr9, hro, hbw, rfl, rfl⟩ := hrel
    have HG := Lib.hid hg
    have HRo := Lib.hid hro
    clear hg
    by_cases hlt : i < xs.length
    · obtain ⟨b, off, A', c', hA, hb, c0, rr, _⟩ := (rx.below hbw).at_ (k := i) (by rw [marksSS_len]; exact hlt)
      rw [marksSS_get k xs i hlt, ← hro] at rr
      rw [marksSS_get k xs i hlt, marksInt64S_len] at c0
      subst hA
      have hlen := hu _ (List.getElem_mem hlt)
      have i1 : (0 : Int) ≤ (i : Int) := by omega
      have i2 : (i : Int) < (xs.length : Int) := by omega
      have HC := Lib.hid (heldInt64S_any A' c' xs[i].length hlen r hr1 (by omega) _ rr)
      clear hro
      go_wp2_with (go_at_call 15; refine HC.out.mono ?_; rintro e w5 ⟨r5, rfl, hr5, hb5⟩; have HR5 := Lib.hid hr5; have t5 : decide (r5 < 0) = false := decide_eq_false (by omega); clear hr5)
      have hr50 := HR5.out.2
      have hr59 : r5 ≤ k + 1048576 * ((i + 1 : Nat) : Int) := by have := HR5.out.1; omega
      go_roundg (xs.length - (i + 1))
      case measure => rw [HG.out]; omega
      case rel => exact ⟨i + 1, r5, by omega, rfl, hr50, hr59, by rw [offK_succ k xs i hlt, ← HRo.out, HR5.out.1], bnext hbw hb5, rfl, by go_num⟩
    · have hI : i = xs.length := by omega
      subst hI
      clear hro
      go_wp2
      go_ret
      exact ⟨congrArg (fun z => Ending.returned (.int .i64 z)) HRo.out, hbw⟩
end Go.Proofs.Ytampmnicnomknaa
