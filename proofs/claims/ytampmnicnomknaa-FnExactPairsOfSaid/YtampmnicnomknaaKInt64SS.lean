/-
  KInt64SS: contract of markInt64SS: only the table's own rows change.
-/
import Derived.Test.YtampmnicnomknaaTPairs
import Derived.Test.YtampmnicnomknaaKInt64S
namespace Go.Proofs.Ytampmnicnomknaa
open Go.RowKit
set_option linter.unusedVariables false
attribute [local go_sem ↓] Go.wp_at_zero Go.wp_at_succ
/-- Only blocks from lo to hi may have changed. -/
structure Within (lo hi : Nat) (w w' : World) : Prop where
  os : w'.os = w.os
  tape : w'.tape = w.tape
  output : w'.output = w.output
  size : w.heap.size ≤ w'.heap.size
  block : ∀ i, i < w.heap.size → i < lo ∨ hi ≤ i → w'.heap[i]? = w.heap[i]?
theorem Within.refl (lo hi : Nat) (w : World) : Within lo hi w w := ⟨rfl, rfl, rfl, Nat.le_refl _, fun _ _ _ => rfl⟩
theorem Within.grown {lo hi : Nat} {w w1 w2 : World} {row : Option Nat} (h : Within lo hi w w1) (hg : w1.grownBy w2 row) (hr : ∀ g, row = some g → lo ≤ g ∧ g < hi) : Within lo hi w w2 :=
  ⟨hg.os.trans h.os, hg.tape.trans h.tape, hg.output.trans h.output, Nat.le_trans h.size hg.size, fun i hi2 ho => (hg.block i (Nat.lt_of_lt_of_le hi2 h.size) (fun hh => by have := hr i hh.symm; omega)).trans (h.block i hi2 ho)⟩
theorem Within.below {lo hi : Nat} {w w' : World} (h : Within lo hi w w') (hl : lo ≤ w.heap.size) : Below lo w w' := ⟨h.os, h.tape, h.output, h.size, fun i hi => h.block i (Nat.lt_of_lt_of_le hi hl) (.inl hi)⟩
theorem Own.keptW {α : Type} {w w' : World} {base lo hi : Nat} {E : TypeId} {e : α → List Value} {s : Nat} {v : Value} {xs : List α} (h : Own w base E e s v xs) (hw : Within lo hi w w') (hne : ∀ g, v.ownBlock = some g → g < lo ∨ hi ≤ g) : Own w' base E e s v xs := by
  refine ⟨h.1, h.2.1, ?_⟩
  rcases h.2.2 with hn | ⟨g, cap, cur, rfl, hb, hgg, rest⟩
  · exact .inl hn
  · refine .inr ⟨g, cap, cur, rfl, hb, ?_, rest⟩
    rw [hw.block g (Array.getElem?_eq_some_iff.1 hgg).1 (hne g rfl)]
    exact hgg
set_option maxHeartbeats 3200000 in
set_option maxRecDepth 10000 in
theorem markInt64SS_any {base hi : Nat} {E : TypeId} (v : Value) (xs : List (List Int)) (hl : xs.length ≤ 1048576) (hu : ∀ r ∈ xs, r.length ≤ 1048576 ∧ ∀ x ∈ r, I64 x) (k : Int) (h0 : 1 ≤ k) (h9 : k ≤ 4398046511104 - 1099511627776) (w : World) (ho : OwnXX w base hi E 2 v xs) :
    Calls Try.prog 7 #[v, .int .i64 k] w fun e w' => ∃ r : Int, e = .returned (.int .i64 r) ∧ (1 ≤ r ∧ r ≤ k + 1048576 * (xs.length : Int)) ∧ Within base hi w w' := by
  obtain ⟨qs, hq1, hown, hin, hpw⟩ := ho
  obtain ⟨A, c, rfl, rr, _⟩ := hown.form
  have hql : qs.length = xs.length := by rw [← hq1]; simp
  have HQ := Lib.hid hq1
  have HIn := Lib.hid hin
  have HPw := Lib.hid hpw
  rw [hql] at hown ⊢
  have HQl := Lib.hid hql
  clear hq1 hin hpw hql
  go_enter Try.func7, Try.ntmps7
  go_wp2
  go_loopg [1, 5] xs.length (fun g ks is wr => ∃ (i : Nat) (r : Int), i ≤ xs.length ∧ g = xs.length - i ∧ 1 ≤ r ∧ r ≤ k + 1048576 * (i : Int) ∧ Own wr base E encSl 1 (.slice A xs.length c) qs ∧ (∀ q ∈ qs.drop i, Own wr base 2 encInt 1 (vSl q) q.xs) ∧ Within base hi w wr ∧ ks = .int .i64 r ∧ is = .int .i64 i)
  case atStart => exact ⟨0, k, Nat.zero_le _, rfl, h0, by omega, hown, fun q hq => (HIn.out q (List.mem_of_mem_drop hq)).1, Within.refl _ _ _, rfl, rfl⟩
  case round =>
    obtain ⟨i, r, hi2, hg, hr1, hr9, hown2, hrest, hwi, rfl, rfl⟩ := hrel
    have HG := Lib.hid hg
    have HRest := Lib.hid hrest
    clear hg hrest
    by_cases hlt : i < xs.length
    · have hiq : i < qs.length := by rw [HQl.out]; exact hlt
      have hmem := List.getElem_mem hiq
      have hdr : qs[i] ∈ qs.drop i := by rw [List.drop_eq_getElem_cons hiq]; exact List.mem_cons_self ..
      have ho5 := HRest.out _ hdr
      have hlen : qs[i].xs.length ≤ 1048576 := (hu qs[i].xs (by rw [← HQ.out]; exact List.mem_map_of_mem hmem)).1
      have hblk := (HIn.out _ hmem).2.2
      have HBlk := Lib.hid hblk
      obtain ⟨b, off, hA, hb, c0⟩ := (own_row hown2).at1 (f := fun q : Sl Int => .slice q.A q.xs.length q.c) hiq
      subst hA
      have HO5 := Lib.hid ho5
      have hr99 : r ≤ 4398046511104 := by omega
      have hcall := fun W => markInt64S_any (base := base) (vSl qs[i]) qs[i].xs hlen r hr1 hr99 W
      clear hblk ho5 hmem
      go_wp2_with (go_at_call 14; refine (hcall _ HO5.out).mono ?_; rintro e w5 ⟨r5, rfl, hr5, ho6, hg5⟩; have HR5 := Lib.hid hr5; clear hr5 ho6)
      have hr50 := HR5.out.2
      have hr59 : r5 ≤ k + 1048576 * ((i + 1 : Nat) : Int) := by have := HR5.out.1; omega
      go_roundg (xs.length - (i + 1))
      case measure => rw [HG.out]; omega
      case rel =>
        refine ⟨i + 1, r5, by omega, rfl, hr50, hr59, hown2.kept hg5 ?_, fun q hq => ?_, hwi.grown hg5 (fun g hgg => ⟨(HO5.out.2.lt g hgg).1, (HBlk.out g hgg).1⟩), rfl, by go_num⟩
        · cases hv : (vSl qs[i]).ownBlock with
          | none => cases hv2 : (Value.slice (some ⟨b, off, none⟩) xs.length c).ownBlock with
            | none => exact .inl rfl
            | some g => exact .inr (by simp)
          | some g => exact .inr (by intro hh; exact (HBlk.out g hv).2 (by rw [HQl.out]; exact hh))
        · have hq2 : q ∈ qs.drop i := by rw [List.drop_eq_getElem_cons hiq]; exact List.mem_cons_of_mem _ hq
          refine (HRest.out q hq2).kept hg5 ?_
          have hp := HPw.out
          rw [← List.take_append_drop i qs, List.pairwise_append] at hp
          have hp2 := hp.2.1
          rw [List.drop_eq_getElem_cons hiq, List.pairwise_cons] at hp2
          cases hv : (vSl qs[i]).ownBlock with
          | none => cases hv2 : (vSl q).ownBlock with
            | none => exact .inl rfl
            | some g => exact .inr (by simp)
          | some g => exact .inr (hp2.1 q hq g hv)
    · have hI : (i : Int) = xs.length := by omega
      have HI := Lib.hid hI
      rw [hI] at hr9
      clear hI
      go_wp2
      go_ret
      exact ⟨_, rfl, ⟨hr1, hr9⟩, hwi⟩
end Go.Proofs.Ytampmnicnomknaa
