/-
  More: further small words on memory. No program in sight.
-/
import Derived.Test.YtampmnicnomknaaBase
import Derived.Deep.OwnRows
namespace Go.Proofs.Ytampmnicnomknaa
open Go.RowKit
/-- A new array variable that is stored its zero value. -/
theorem store_zero {P : Program} (w : World) (z : Array Value) (t : TypeId) (h1 : z.toList.all (·.oneCell') = true) :
    (storeCells ⟨w.heap.size, 0, none⟩ z.toList).run P (w.alloc (.cells z t)) = .ok () (w.alloc (.cells z t)) := by
  have hh : (w.alloc (.cells z t)).heap[w.heap.size]? = some (.cells z t (0, 0)) := heap_alloc_new w _
  have := run_storeCells_at P w.heap.size 0 t z.toList 0 z (w.alloc (.cells z t)) hh (by simp) (fun v hv => List.all_eq_true.1 h1 v hv)
  rw [this]
  congr 1
  have e1 : (z.toList.take (0 + 0) ++ z.toList ++ z.toList.drop (0 + 0 + z.toList.length)).toArray = z := by
    rw [List.drop_of_length_le (by omega)]; simp
  rw [e1, setRow_self _ _ z t (0, 0) hh]
theorem rowIs_of_list (w : World) (z : Array Value) (t : TypeId) (n : Nat) (u : Value) (h : z.toList = List.replicate n u) : (w.alloc (.cells z t)).rowIs w.heap.size t n (fun _ => u) := by
  have hs : z.size = n := by rw [← Array.length_toList, h, List.length_replicate]
  have := World.rowIs_alloc w z t (fun _ => u) (fun i hi => by
    rw [← Array.getElem?_toList, h, List.getElem?_replicate, if_pos (by omega)])
  rwa [hs] at this

section
variable {α : Type} {w w' : World} {A : Option Addr} {e : α → List Value} {s : Nat} {xs : List α} {base : Nat} {E : TypeId} {v : Value}
/-- A store below the base leaves an own row as it is. -/
theorem Own.setBelow (h : Own w base E e s v xs) {a : Addr} (ha : a.block < base) (u : Value) : Own (w.setCell a u) base E e s v xs :=
  ⟨h.1, ownsRow_setCell_below h.2 ha u⟩
theorem own_row {n c : Nat} (h : Own w base E e s (.slice A n c) xs) : Row w A e s xs := by
  obtain ⟨A', c', hv, hr, _⟩ := h.form
  simp only [Value.slice.injEq] at hv
  obtain ⟨rfl, _, _⟩ := hv
  exact hr
/-- What was stated below an undrawn world. -/
theorem bundrew {a b : World} (h : Below a.drew.heap.size a.drew b) : Below a.heap.size a b := ⟨h.os, h.tape, h.output, h.size, h.block⟩
theorem bundrewN {a b : World} {n : Nat} (h : Below (a.drewN n).heap.size (a.drewN n) b) : Below a.heap.size a b := ⟨h.os, h.tape, h.output, h.size, h.block⟩
/-- Two own rows, the second made after the first: they lie apart. -/
theorem own_apart {β : Type} {e2 : β → List Value} {s2 : Nat} {ys : List β} {base2 : Nat} {E2 : TypeId} {v2 : Value} {w2 : World}
    (h : Own w base E e s v xs) (h2 : Own w2 base2 E2 e2 s2 v2 ys) (hle : w.heap.size ≤ base2) : v.ownBlock = none ∨ v.ownBlock ≠ v2.ownBlock := by
  cases hv : v.ownBlock with
  | none => exact .inl rfl
  | some g =>
    refine .inr fun hh => ?_
    have h1 := (h.2.lt g hv).2
    have h3 := (h2.2.lt g hh.symm).1
    omega
theorem own_apart' {β : Type} {e2 : β → List Value} {s2 : Nat} {ys : List β} {base2 : Nat} {E2 : TypeId} {v2 : Value} {w2 : World}
    (h : Own w base E e s v xs) (h2 : Own w2 base2 E2 e2 s2 v2 ys) (hle : w.heap.size ≤ base2) : v2.ownBlock = none ∨ v2.ownBlock ≠ v.ownBlock := by
  cases hv : v2.ownBlock with
  | none => exact .inl rfl
  | some g =>
    refine .inr fun hh => ?_
    have h1 := (h.2.lt g hh.symm).2
    have h3 := (h2.2.lt g hv).1
    omega
theorem Own.kept {row : Option Nat} (h : Own w base E e s v xs) (hg : w.grownBy w' row) (hne : v.ownBlock = none ∨ v.ownBlock ≠ row) : Own w' base E e s v xs := ⟨h.1, h.2.kept hg hne⟩
end
end Go.Proofs.Ytampmnicnomknaa
