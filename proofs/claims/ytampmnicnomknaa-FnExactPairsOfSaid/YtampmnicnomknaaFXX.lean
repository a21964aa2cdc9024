/-
  FXX: the model of PairsOf, and the cells of a table of the call's own. Printed by wip/gen_xx.py.
-/
import Derived.Test.YtampmnicnomknaaKMarkXX
import Derived.Test.YtampmnicnomknaaFLay
import Derived.Test.YtampmnicnomknaaFSwap
import Derived.Test.YtampmnicnomknaaApps
namespace Go.Proofs.Ytampmnicnomknaa
open Go.RowKit
set_option linter.unusedVariables false
def byteAt (t : ByteArray) (i : Nat) : UInt8 := t.data.toList.getD i 0
theorem byteAt_eq (t : ByteArray) (i : Nat) (h : i < t.size) : byteAt t i = t[i] := by
  unfold byteAt
  rw [List.getD_eq_getElem?_getD, List.getElem?_eq_getElem (by simpa using h)]
  rfl
def zerosT (n : Nat) : List (List Int) := List.replicate n (List.replicate n 0)
def bumpT (T : List (List Int)) (a b : Nat) : List (List Int) := T.set a ((T.getD a []).set b (min 1000 ((T.getD a []).getD b 0 + 1)))
def stepT (s t : ByteArray) (i : Nat) (T : List (List Int)) : List (List Int) :=
  if 0 ≤ idx s (byteAt t (i - 1)) ∧ 0 ≤ idx s (byteAt t i) then bumpT T (idx s (byteAt t (i - 1))).toNat (idx s (byteAt t i)).toNat else T
def pairsT (s t : ByteArray) : Nat → List (List Int)
  | 0 => zerosT s.size
  | k + 1 => stepT s t (k + 1) (pairsT s t k)
def PairsIn (s t : ByteArray) : Prop := 2 ≤ s.size ∧ TextOk s 32 7 ∧ Dist s ∧ t.size ≤ 4000
noncomputable def M_PairsOf (s t : ByteArray) : List (List Int) × Int := by
  classical exact if PairsIn s t then (pairsT s t (t.size - 1), 0) else ([], 2)
theorem M_pairs_yes {s t : ByteArray} (h : PairsIn s t) : M_PairsOf s t = (pairsT s t (t.size - 1), 0) := by unfold M_PairsOf; rw [if_pos h]
theorem M_pairs_no {s t : ByteArray} (h : ¬ PairsIn s t) : M_PairsOf s t = ([], 2) := by unfold M_PairsOf; rw [if_neg h]
/-- A table of n rows of n numbers from 0 to 1000. -/
def Square (n : Nat) (T : List (List Int)) : Prop := T.length = n ∧ ∀ r ∈ T, r.length = n ∧ ∀ x ∈ r, 0 ≤ x ∧ x ≤ 1000
theorem square_zeros (n : Nat) : Square n (zerosT n) := by
  refine ⟨by simp [zerosT], fun r hr => ?_⟩
  have := List.eq_of_mem_replicate hr
  subst this
  refine ⟨by simp, fun x hx => ?_⟩
  have := List.eq_of_mem_replicate hx
  subst this
  omega
theorem square_bump {n : Nat} {T : List (List Int)} (h : Square n T) (a b : Nat) (ha : a < n) (hb : b < n) : Square n (bumpT T a b) := by
  unfold bumpT
  have hal : a < T.length := by rw [h.1]; exact ha
  have hg : T.getD a [] = T[a] := by rw [List.getD_eq_getElem?_getD, List.getElem?_eq_getElem hal]; rfl
  have hr := h.2 _ (List.getElem_mem hal)
  refine ⟨by rw [List.length_set]; exact h.1, fun r hr2 => ?_⟩
  rcases List.mem_or_eq_of_mem_set hr2 with h1 | h1
  · exact h.2 r h1
  · subst h1
    rw [hg]
    refine ⟨by rw [List.length_set]; exact hr.1, fun x hx => ?_⟩
    rcases List.mem_or_eq_of_mem_set hx with h2 | h2
    · exact hr.2 x h2
    · subst h2
      have hbl : b < T[a].length := by rw [hr.1]; exact hb
      rw [List.getD_eq_getElem?_getD, List.getElem?_eq_getElem hbl]
      have := hr.2 _ (List.getElem_mem hbl)
      simp only [Option.getD_some]
      omega
theorem square_step {s t : ByteArray} {i : Nat} {T : List (List Int)} (h : Square s.size T) : Square s.size (stepT s t i T) := by
  unfold stepT
  split
  · rename_i hh
    have h1 := idx_bd s (byteAt t (i - 1))
    have h2 := idx_bd s (byteAt t i)
    exact square_bump h _ _ (by omega) (by omega)
  · exact h
theorem square_pairs (s t : ByteArray) : ∀ k, Square s.size (pairsT s t k)
  | 0 => square_zeros _
  | k + 1 => square_step (square_pairs s t k)
theorem bump_eq {n : Nat} {T : List (List Int)} (h : Square n T) (a b : Nat) (ha : a < T.length) (hb : b < T[a].length) : bumpT T a b = T.set a (T[a].set b (min 1000 (T[a][b] + 1))) := by
  unfold bumpT
  rw [show T.getD a [] = T[a] by rw [List.getD_eq_getElem?_getD, List.getElem?_eq_getElem ha]; rfl, show T[a].getD b 0 = T[a][b] by rw [List.getD_eq_getElem?_getD, List.getElem?_eq_getElem hb]; rfl]
/-- An element of a table of the call's own: its two cells, and the table behind a store. -/
theorem OwnXX.cell2 {w : World} {base hi : Nat} {E T : TypeId} {v : Value} {yss : List (List Int)} (h : OwnXX w base hi E T v yss) (a b : Nat) (ha : a < yss.length) (hb : b < yss[a].length) :
    ∃ G c g c', v = .slice (some ⟨G, 0, none⟩) yss.length c ∧ w.cell? ⟨G, a, none⟩ = some (.slice (some ⟨g, 0, none⟩) yss[a].length c') ∧ w.cell? ⟨g, b, none⟩ = some (.int .i64 yss[a][b]) ∧ w.frozen? ⟨g, b, none⟩ = false ∧ base ≤ g ∧ g < w.heap.size ∧ G ≠ g ∧
      ∀ z, OwnXX (w.setCell ⟨g, b, none⟩ (.int .i64 z)) base hi E T v (yss.set a (yss[a].set b z)) := by
  obtain ⟨qs, rfl, h2, h3, h4⟩ := h
  have hq : a < qs.length := by simpa using ha
  have hmem := List.getElem_mem hq
  have hx : (xss qs)[a] = qs[a].xs := by simp
  have hb2 : b < qs[a].xs.length := by rw [← hx]; exact hb
  obtain ⟨G, c, rfl⟩ := own_some h2 (by omega)
  have hrow := (h3 _ hmem).1
  have hap := (h3 _ hmem).2.2
  obtain ⟨g, c', hv⟩ := own_some hrow (by omega)
  have c0 := h2.cell (k := a) (j := 0) (u := vSl qs[a]) hq rfl
  rw [hv] at hrow c0 hap
  have c1 := hrow.cell (k := b) (j := 0) (u := .int .i64 qs[a].xs[b]) hb2 rfl
  have hg := hrow.blk
  have hne := (hap g rfl).2
  have hGg : G ≠ g := fun hh => hne (by rw [hh]; rfl)
  refine ⟨G, c, g, c', by simp, by simpa using c0, by simpa using c1, hrow.frozen b, hg.1, hg.2, hGg, fun z => ?_⟩
  have hgs := grown_set w g b (.int .i64 z)
  refine ⟨qs.set a ⟨qs[a].A, qs[a].c, qs[a].xs.set b z⟩, ?_, ?_, ?_, ?_⟩
  · unfold xss; rw [List.map_set]; simp
  · refine (h2.kept hgs (.inr hne)).same (by simp) ?_
    rw [List.flatMap_def, List.flatMap_def, List.map_set]
    congr 1
    apply List.ext_getElem
    · simp
    · intro i h5 h6
      rw [List.getElem_set]
      split
      · rename_i hia; subst hia; simp [encSl]
      · rfl
  · intro q hq2
    obtain ⟨j, hj, rfl⟩ := List.getElem_of_mem hq2
    rw [List.length_set] at hj
    rw [List.getElem_set]
    split
    · rename_i hja
      subst hja
      have e2 : vSl (⟨qs[a].A, qs[a].c, qs[a].xs.set b z⟩ : Sl Int) = vSl qs[a] := by simp [vSl]
      rw [e2, hv]
      refine ⟨?_, by simpa using (h3 _ hmem).2.1, by rw [← hv]; exact (h3 _ hmem).2.2⟩
      exact hrow.store1 (f := fun x : Int => .int .i64 x) hb2 z
    · rename_i hja
      have h7 := h3 _ (List.getElem_mem hj)
      refine ⟨h7.1.kept hgs ?_, h7.2⟩
      have hp := List.pairwise_iff_getElem.1 h4
      cases hvj : (vSl qs[j]).ownBlock with
      | none => exact .inl rfl
      | some g2 =>
        refine .inr fun hh => ?_
        have hgv : (vSl qs[a]).ownBlock = some g := by rw [hv]; rfl
        rcases Nat.lt_or_ge j a with h1 | h1
        · exact hp j a hj hq h1 g2 hvj (by rw [hgv, hh])
        · exact hp a j hq hj (by omega) g hgv (by rw [hvj, hh])
  · rw [List.pairwise_iff_getElem]
    intro i j hi3 hj3 hij
    rw [List.length_set] at hi3 hj3
    have hp := List.pairwise_iff_getElem.1 h4 i j hi3 hj3 hij
    have e2 : ∀ k (hk : k < qs.length), vSl ((qs.set a ⟨qs[a].A, qs[a].c, qs[a].xs.set b z⟩)[k]'(by rw [List.length_set]; exact hk)) = vSl qs[k] := fun k hk => by
      rw [List.getElem_set]
      split
      · rename_i hka; subst hka; simp [vSl]
      · rfl
    rw [e2 i hi3, e2 j hj3]
    exact hp
end Go.Proofs.Ytampmnicnomknaa
