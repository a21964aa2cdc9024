/-
  More: further small words on memory. No program in sight.
-/
import Derived.Test.YtbdafliclhenlaaBase
namespace Go.Proofs.Ytbdafliclhenlaa
open Go.RowKit
section
variable {α : Type} {w w' : World} {A : Option Addr} {e : α → List Value} {s : Nat} {xs : List α} {base : Nat} {E : TypeId} {v : Value}
/-- A store below the base leaves an own row as it is. -/
theorem Own.setBelow (h : Own w base E e s v xs) {a : Addr} (ha : a.block < base) (u : Value) : Own (w.setCell a u) base E e s v xs :=
  ⟨h.1, ownsRow_setCell_below h.2 ha u⟩
theorem own_row {n c : Nat} (h : Own w base E e s (.slice A n c) xs) : Row w A e s xs := by
  obtain ⟨A', c', hv, hr, _⟩ := h.form
  simp only [Value.slice.injEq] at hv
  obtain ⟨rfl, _, _⟩ := hv
  exact hr
/-- What was stated below an undrawn world. -/
theorem bundrew {a b : World} (h : Below a.drew.heap.size a.drew b) : Below a.heap.size a b := ⟨h.os, h.tape, h.output, h.size, h.block⟩
theorem bundrewN {a b : World} {n : Nat} (h : Below (a.drewN n).heap.size (a.drewN n) b) : Below a.heap.size a b := ⟨h.os, h.tape, h.output, h.size, h.block⟩
/-- Two own rows, the second made after the first: they lie apart. -/
theorem own_apart {β : Type} {e2 : β → List Value} {s2 : Nat} {ys : List β} {base2 : Nat} {E2 : TypeId} {v2 : Value} {w2 : World}
    (h : Own w base E e s v xs) (h2 : Own w2 base2 E2 e2 s2 v2 ys) (hle : w.heap.size ≤ base2) : v.ownBlock = none ∨ v.ownBlock ≠ v2.ownBlock := by
  cases hv : v.ownBlock with
  | none => exact .inl rfl
  | some g =>
    refine .inr fun hh => ?_
    have h1 := (h.2.lt g hv).2
    have h3 := (h2.2.lt g hh.symm).1
    omega
theorem own_apart' {β : Type} {e2 : β → List Value} {s2 : Nat} {ys : List β} {base2 : Nat} {E2 : TypeId} {v2 : Value} {w2 : World}
    (h : Own w base E e s v xs) (h2 : Own w2 base2 E2 e2 s2 v2 ys) (hle : w.heap.size ≤ base2) : v2.ownBlock = none ∨ v2.ownBlock ≠ v.ownBlock := by
  cases hv : v2.ownBlock with
  | none => exact .inl rfl
  | some g =>
    refine .inr fun hh => ?_
    have h1 := (h.2.lt g hh.symm).2
    have h3 := (h2.2.lt g hv).1
    omega
theorem Own.kept {row : Option Nat} (h : Own w base E e s v xs) (hg : w.grownBy w' row) (hne : v.ownBlock = none ∨ v.ownBlock ≠ row) : Own w' base E e s v xs := ⟨h.1, h.2.kept hg hne⟩
end
end Go.Proofs.Ytbdafliclhenlaa
