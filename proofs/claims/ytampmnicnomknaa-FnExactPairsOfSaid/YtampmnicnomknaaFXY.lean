/-
  FXY: a table of the call's own grows by a made row; results that are tables. Printed by wip/gen_pairss.py.
-/
import Derived.Test.YtampmnicnomknaaFXX
import Derived.Test.YtampmnicnomknaaAppAt
namespace Go.Proofs.Ytampmnicnomknaa
open Go.RowKit
set_option linter.unusedVariables false
theorem OwnXX.mono {w : World} {base base' hi hi' : Nat} {E T : TypeId} {v : Value} {yss : List (List Int)} (h : OwnXX w base hi E T v yss) (hb : base' ≤ base) (hh : hi ≤ hi') : OwnXX w base' hi' E T v yss := by
  obtain ⟨qs, h1, h2, h3, h4⟩ := h
  exact ⟨qs, h1, h2.mono hb, fun q hq => ⟨(h3 q hq).1.mono hb, (h3 q hq).2.1, fun g hg => ⟨Nat.lt_of_lt_of_le ((h3 q hq).2.2 g hg).1 hh, ((h3 q hq).2.2 g hg).2⟩⟩, h4⟩
theorem OwnXX.nil (w : World) (base hi : Nat) (E T : TypeId) : OwnXX w base hi E T (.slice none 0 0) [] := ⟨[], rfl, Own.nilv (e := encSl) (s := 1) w (fun _ => rfl) base E, fun q hq => by simp at hq, List.Pairwise.nil⟩
theorem OwnXX.push {w w' : World} {base n : Nat} {E T : TypeId} {v v' : Value} {qs : List (Sl Int)} {x : Sl Int} {o1 o2 : Obj} (hxd : x = ⟨some ⟨w.heap.size, 0, none⟩, n, List.replicate n 0⟩) (hn : n ≤ maxLen)
    (h3 : ∀ q ∈ qs, Own w base T encInt 1 (vSl q) q.xs ∧ q.xs.length ≤ maxLen ∧ ∀ g, (vSl q).ownBlock = some g → g < w.heap.size ∧ v.ownBlock ≠ some g)
    (h4 : qs.Pairwise (fun p q => ∀ g, (vSl p).ownBlock = some g → (vSl q).ownBlock ≠ some g)) (hv : ∀ g, v.ownBlock = some g → g < w.heap.size)
    (hx : Own (w.alloc o1) base T encInt 1 (vSl x) x.xs) (ho' : Own w' base E encSl 1 v' (qs ++ [x])) (hg : ((w.alloc o1).alloc o2).grownBy w' v.ownBlock) (hat : v'.ownBlock = v.ownBlock ∨ v'.ownBlock = some ((w.alloc o1).alloc o2).heap.size) :
    OwnXX w' base w'.heap.size E T v' (xss qs ++ [List.replicate n 0]) := by
  have hs2 : ((w.alloc o1).alloc o2).heap.size = w.heap.size + 2 := by simp
  have hsw := hg.size
  rw [hs2] at hsw hat
  have hxo : (vSl x).ownBlock = some w.heap.size := by rw [hxd]; rfl
  refine ⟨qs ++ [x], by unfold xss; rw [List.map_append, hxd]; rfl, ho', fun q hq => ?_, ?_⟩
  · rcases List.mem_append.1 hq with h | h
    · have h5 := h3 q h
      refine ⟨(h5.1.below (bal (bal (Below.refl _ _) o1) o2)).kept hg ?_, h5.2.1, fun g hgg => ?_⟩
      · cases hvq : (vSl q).ownBlock with
        | none => exact .inl rfl
        | some g => exact .inr fun hh => (h5.2.2 g hvq).2 hh.symm
      · have h6 := h5.2.2 g hgg
        refine ⟨by omega, fun hh => ?_⟩
        rcases hat with h7 | h7
        · exact h6.2 (by rw [← h7]; exact hh)
        · rw [h7] at hh; injection hh with hh; omega
    · simp only [List.mem_cons, List.not_mem_nil, or_false] at h
      subst h
      refine ⟨(hx.below (bal (Below.refl _ _) o2)).kept hg ?_, by rw [hxd]; simpa using hn, fun g hgg => ?_⟩
      · rw [hxo]
        exact .inr fun hh => by have := hv _ hh.symm; omega
      · rw [hxo] at hgg
        injection hgg with hgg
        refine ⟨by omega, fun hh => ?_⟩
        rcases hat with h7 | h7
        · rw [h7] at hh; have := hv _ hh; omega
        · rw [h7] at hh; injection hh with hh; omega
  · rw [List.pairwise_append]
    refine ⟨h4, by simp, fun p hp q hq g hgg hh => ?_⟩
    simp only [List.mem_cons, List.not_mem_nil, or_false] at hq
    subst hq
    rw [hxo] at hh
    injection hh with hh
    have := ((h3 p hp).2.2 g hgg).1
    omega
/-- A table of the call's own and a code. -/
def RXX (E T : TypeId) (m : List (List Int) × Int) (w : World) (e : Ending) (w' : World) : Prop := ∃ (v : Value) (n : Int), e = .returned (.tuple #[v, .int .i64 n]) ∧ n = m.2 ∧ OwnXX w' w.heap.size w'.heap.size E T v m.1 ∧ Below w.heap.size w w'
theorem RXX.mk {E T : TypeId} {m : List (List Int) × Int} {v : Value} {T0 : List (List Int)} {n : Int} {w w' : World} {hi : Nat} (h : (T0, n) = m) (ho : OwnXX w' w.heap.size hi E T v T0) (hh : hi ≤ w'.heap.size) (hb : Below w.heap.size w w') : RXX E T m w (.returned (.tuple #[v, .int .i64 n])) w' := by
  subst h; exact ⟨v, n, rfl, rfl, ho.mono (Nat.le_refl _) hh, hb⟩
theorem RXX.no {E T : TypeId} {m : List (List Int) × Int} {n : Int} {w w' : World} (h : ([], n) = m) (hb : Below w.heap.size w w') : RXX E T m w (.returned (.tuple #[.slice none 0 0, .int .i64 n])) w' := by
  subst h; exact ⟨_, n, rfl, rfl, OwnXX.nil _ _ _ _ _, hb⟩
theorem xx_slice {w : World} {base hi : Nat} {E T : TypeId} {v : Value} {yss : List (List Int)} (h : OwnXX w base hi E T v yss) : ∃ A c, v = .slice A yss.length c := by
  obtain ⟨A, c, hv, _⟩ := h.form
  exact ⟨A, c, hv⟩
end Go.Proofs.Ytampmnicnomknaa
