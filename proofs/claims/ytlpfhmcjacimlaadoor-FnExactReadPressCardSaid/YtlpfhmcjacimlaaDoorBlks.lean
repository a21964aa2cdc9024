/-
  Blks: a block of the call's own that holds a struct of n cells, told whole. No program in sight.
-/
import Derived.Test.YtlpfhmcjacimlaaDoorAppAt
import Derived.Laws.Rows
namespace Go.Proofs.YtlpfhmcjacimlaaDoor
open Go.RowKit
theorem blk_cell {w : World} {b : Nat} {cs : Array Value} {T : TypeId} (h : w.heap[b]? = some (.cells cs T (0, 0))) (i : Nat) : w.cell? ⟨b, i, none⟩ = cs[i]? := by
  simp [World.cell?, h]
theorem blk_frozen {w : World} {b : Nat} {cs : Array Value} {T : TypeId} (h : w.heap[b]? = some (.cells cs T (0, 0))) (i : Nat) : w.frozen? ⟨b, i, none⟩ = false := by
  simp [World.frozen?, h]
theorem blk_lt {w : World} {b : Nat} {o : Obj} (h : w.heap[b]? = some o) : b < w.heap.size := (Array.getElem?_eq_some_iff.1 h).1
theorem grown_cs (w : World) (b o : Nat) (u : Value) : w.grownBy (w.setCell ⟨b, o, none⟩ u) (some b) := by
  exact ⟨rfl, rfl, rfl, by simp [World.setCell], fun i hi hne => Below.heap_setCell _ _ _ _ (fun hh => hne (by rw [hh]))⟩
theorem Apart.or {v : Value} {b : Nat} (h : Apart v b) : v.ownBlock = Option.none ∨ v.ownBlock ≠ some b := by
  cases hv : v.ownBlock with
  | none => exact .inl rfl
  | some g => exact .inr fun hh => by injection hh with hh; exact h g hv hh
theorem own_slice {α : Type} {w : World} {base : Nat} {E : TypeId} {e : α → List Value} {s : Nat} {v : Value} {xs : List α} (h : Own w base E e s v xs) : ∃ A n c, v = .slice A n c := by
  obtain ⟨A, c, hv, _⟩ := h.form
  exact ⟨A, _, c, hv⟩
theorem own_ne {α : Type} {w : World} {base : Nat} {E : TypeId} {e : α → List Value} {s : Nat} {v : Value} {xs : List α} (h : Own w base E e s v xs) {b : Nat} (hb : b < base) : some b ≠ v.ownBlock := fun hh => by
  have := (h.2.lt b hh.symm).1
  omega
def At3 (w : World) (b : Nat) (T : TypeId) (x0 x1 x2 : Value) : Prop := w.heap[b]? = some (.cells #[x0, x1, x2] T (0, 0))
section
variable {w w' : World} {b : Nat} {T : TypeId} {x0 x1 x2 : Value}
theorem At3.new (w : World) (T : TypeId) (x0 x1 x2 : Value) : At3 (w.alloc (.cells #[x0, x1, x2] T)) w.heap.size T x0 x1 x2 := heap_alloc_new w _
theorem At3.lt (h : At3 w b T x0 x1 x2) : b < w.heap.size := blk_lt h
theorem At3.frozen (h : At3 w b T x0 x1 x2) (i : Nat) : w.frozen? ⟨b, i, none⟩ = false := blk_frozen h i
theorem At3.below (h : At3 w b T x0 x1 x2) (hb : Below w.heap.size w w') : At3 w' b T x0 x1 x2 := (hb.block b h.lt).trans h
theorem At3.grown {row : Option Nat} (h : At3 w b T x0 x1 x2) (hg : w.grownBy w' row) (hne : some b ≠ row) : At3 w' b T x0 x1 x2 := (hg.block b h.lt hne).trans h
theorem At3.alloc (h : At3 w b T x0 x1 x2) (o : Obj) : At3 (w.alloc o) b T x0 x1 x2 := h.below (bal (Below.refl _ _) o)
theorem At3.setOther (h : At3 w b T x0 x1 x2) (g i : Nat) (u : Value) (hne : b ≠ g) : At3 (w.setCell ⟨g, i, none⟩ u) b T x0 x1 x2 := (Below.heap_setCell w _ u b hne).trans h
theorem At3.cell0 (h : At3 w b T x0 x1 x2) : w.cell? ⟨b, 0, none⟩ = some x0 := by rw [blk_cell h]; rfl
theorem At3.set0 (h : At3 w b T x0 x1 x2) (u : Value) : At3 (w.setCell ⟨b, 0, none⟩ u) b T u x1 x2 := by
  have := heap_setCell_same w b 0 _ T u h
  simpa [At3] using this
theorem At3.cell1 (h : At3 w b T x0 x1 x2) : w.cell? ⟨b, 1, none⟩ = some x1 := by rw [blk_cell h]; rfl
theorem At3.set1 (h : At3 w b T x0 x1 x2) (u : Value) : At3 (w.setCell ⟨b, 1, none⟩ u) b T x0 u x2 := by
  have := heap_setCell_same w b 1 _ T u h
  simpa [At3] using this
theorem At3.cell2 (h : At3 w b T x0 x1 x2) : w.cell? ⟨b, 2, none⟩ = some x2 := by rw [blk_cell h]; rfl
theorem At3.set2 (h : At3 w b T x0 x1 x2) (u : Value) : At3 (w.setCell ⟨b, 2, none⟩ u) b T x0 x1 u := by
  have := heap_setCell_same w b 2 _ T u h
  simpa [At3] using this
end
def At4 (w : World) (b : Nat) (T : TypeId) (x0 x1 x2 x3 : Value) : Prop := w.heap[b]? = some (.cells #[x0, x1, x2, x3] T (0, 0))
section
variable {w w' : World} {b : Nat} {T : TypeId} {x0 x1 x2 x3 : Value}
theorem At4.new (w : World) (T : TypeId) (x0 x1 x2 x3 : Value) : At4 (w.alloc (.cells #[x0, x1, x2, x3] T)) w.heap.size T x0 x1 x2 x3 := heap_alloc_new w _
theorem At4.lt (h : At4 w b T x0 x1 x2 x3) : b < w.heap.size := blk_lt h
theorem At4.frozen (h : At4 w b T x0 x1 x2 x3) (i : Nat) : w.frozen? ⟨b, i, none⟩ = false := blk_frozen h i
theorem At4.below (h : At4 w b T x0 x1 x2 x3) (hb : Below w.heap.size w w') : At4 w' b T x0 x1 x2 x3 := (hb.block b h.lt).trans h
theorem At4.grown {row : Option Nat} (h : At4 w b T x0 x1 x2 x3) (hg : w.grownBy w' row) (hne : some b ≠ row) : At4 w' b T x0 x1 x2 x3 := (hg.block b h.lt hne).trans h
theorem At4.alloc (h : At4 w b T x0 x1 x2 x3) (o : Obj) : At4 (w.alloc o) b T x0 x1 x2 x3 := h.below (bal (Below.refl _ _) o)
theorem At4.setOther (h : At4 w b T x0 x1 x2 x3) (g i : Nat) (u : Value) (hne : b ≠ g) : At4 (w.setCell ⟨g, i, none⟩ u) b T x0 x1 x2 x3 := (Below.heap_setCell w _ u b hne).trans h
theorem At4.cell0 (h : At4 w b T x0 x1 x2 x3) : w.cell? ⟨b, 0, none⟩ = some x0 := by rw [blk_cell h]; rfl
theorem At4.set0 (h : At4 w b T x0 x1 x2 x3) (u : Value) : At4 (w.setCell ⟨b, 0, none⟩ u) b T u x1 x2 x3 := by
  have := heap_setCell_same w b 0 _ T u h
  simpa [At4] using this
theorem At4.cell1 (h : At4 w b T x0 x1 x2 x3) : w.cell? ⟨b, 1, none⟩ = some x1 := by rw [blk_cell h]; rfl
theorem At4.set1 (h : At4 w b T x0 x1 x2 x3) (u : Value) : At4 (w.setCell ⟨b, 1, none⟩ u) b T x0 u x2 x3 := by
  have := heap_setCell_same w b 1 _ T u h
  simpa [At4] using this
theorem At4.cell2 (h : At4 w b T x0 x1 x2 x3) : w.cell? ⟨b, 2, none⟩ = some x2 := by rw [blk_cell h]; rfl
theorem At4.set2 (h : At4 w b T x0 x1 x2 x3) (u : Value) : At4 (w.setCell ⟨b, 2, none⟩ u) b T x0 x1 u x3 := by
  have := heap_setCell_same w b 2 _ T u h
  simpa [At4] using this
theorem At4.cell3 (h : At4 w b T x0 x1 x2 x3) : w.cell? ⟨b, 3, none⟩ = some x3 := by rw [blk_cell h]; rfl
theorem At4.set3 (h : At4 w b T x0 x1 x2 x3) (u : Value) : At4 (w.setCell ⟨b, 3, none⟩ u) b T x0 x1 x2 u := by
  have := heap_setCell_same w b 3 _ T u h
  simpa [At4] using this
end
def At7 (w : World) (b : Nat) (T : TypeId) (x0 x1 x2 x3 x4 x5 x6 : Value) : Prop := w.heap[b]? = some (.cells #[x0, x1, x2, x3, x4, x5, x6] T (0, 0))
section
variable {w w' : World} {b : Nat} {T : TypeId} {x0 x1 x2 x3 x4 x5 x6 : Value}
theorem At7.new (w : World) (T : TypeId) (x0 x1 x2 x3 x4 x5 x6 : Value) : At7 (w.alloc (.cells #[x0, x1, x2, x3, x4, x5, x6] T)) w.heap.size T x0 x1 x2 x3 x4 x5 x6 := heap_alloc_new w _
theorem At7.lt (h : At7 w b T x0 x1 x2 x3 x4 x5 x6) : b < w.heap.size := blk_lt h
theorem At7.frozen (h : At7 w b T x0 x1 x2 x3 x4 x5 x6) (i : Nat) : w.frozen? ⟨b, i, none⟩ = false := blk_frozen h i
theorem At7.below (h : At7 w b T x0 x1 x2 x3 x4 x5 x6) (hb : Below w.heap.size w w') : At7 w' b T x0 x1 x2 x3 x4 x5 x6 := (hb.block b h.lt).trans h
theorem At7.grown {row : Option Nat} (h : At7 w b T x0 x1 x2 x3 x4 x5 x6) (hg : w.grownBy w' row) (hne : some b ≠ row) : At7 w' b T x0 x1 x2 x3 x4 x5 x6 := (hg.block b h.lt hne).trans h
theorem At7.alloc (h : At7 w b T x0 x1 x2 x3 x4 x5 x6) (o : Obj) : At7 (w.alloc o) b T x0 x1 x2 x3 x4 x5 x6 := h.below (bal (Below.refl _ _) o)
theorem At7.setOther (h : At7 w b T x0 x1 x2 x3 x4 x5 x6) (g i : Nat) (u : Value) (hne : b ≠ g) : At7 (w.setCell ⟨g, i, none⟩ u) b T x0 x1 x2 x3 x4 x5 x6 := (Below.heap_setCell w _ u b hne).trans h
theorem At7.cell0 (h : At7 w b T x0 x1 x2 x3 x4 x5 x6) : w.cell? ⟨b, 0, none⟩ = some x0 := by rw [blk_cell h]; rfl
theorem At7.set0 (h : At7 w b T x0 x1 x2 x3 x4 x5 x6) (u : Value) : At7 (w.setCell ⟨b, 0, none⟩ u) b T u x1 x2 x3 x4 x5 x6 := by
  have := heap_setCell_same w b 0 _ T u h
  simpa [At7] using this
theorem At7.cell1 (h : At7 w b T x0 x1 x2 x3 x4 x5 x6) : w.cell? ⟨b, 1, none⟩ = some x1 := by rw [blk_cell h]; rfl
theorem At7.set1 (h : At7 w b T x0 x1 x2 x3 x4 x5 x6) (u : Value) : At7 (w.setCell ⟨b, 1, none⟩ u) b T x0 u x2 x3 x4 x5 x6 := by
  have := heap_setCell_same w b 1 _ T u h
  simpa [At7] using this
theorem At7.cell2 (h : At7 w b T x0 x1 x2 x3 x4 x5 x6) : w.cell? ⟨b, 2, none⟩ = some x2 := by rw [blk_cell h]; rfl
theorem At7.set2 (h : At7 w b T x0 x1 x2 x3 x4 x5 x6) (u : Value) : At7 (w.setCell ⟨b, 2, none⟩ u) b T x0 x1 u x3 x4 x5 x6 := by
  have := heap_setCell_same w b 2 _ T u h
  simpa [At7] using this
theorem At7.cell3 (h : At7 w b T x0 x1 x2 x3 x4 x5 x6) : w.cell? ⟨b, 3, none⟩ = some x3 := by rw [blk_cell h]; rfl
theorem At7.set3 (h : At7 w b T x0 x1 x2 x3 x4 x5 x6) (u : Value) : At7 (w.setCell ⟨b, 3, none⟩ u) b T x0 x1 x2 u x4 x5 x6 := by
  have := heap_setCell_same w b 3 _ T u h
  simpa [At7] using this
theorem At7.cell4 (h : At7 w b T x0 x1 x2 x3 x4 x5 x6) : w.cell? ⟨b, 4, none⟩ = some x4 := by rw [blk_cell h]; rfl
theorem At7.set4 (h : At7 w b T x0 x1 x2 x3 x4 x5 x6) (u : Value) : At7 (w.setCell ⟨b, 4, none⟩ u) b T x0 x1 x2 x3 u x5 x6 := by
  have := heap_setCell_same w b 4 _ T u h
  simpa [At7] using this
theorem At7.cell5 (h : At7 w b T x0 x1 x2 x3 x4 x5 x6) : w.cell? ⟨b, 5, none⟩ = some x5 := by rw [blk_cell h]; rfl
theorem At7.set5 (h : At7 w b T x0 x1 x2 x3 x4 x5 x6) (u : Value) : At7 (w.setCell ⟨b, 5, none⟩ u) b T x0 x1 x2 x3 x4 u x6 := by
  have := heap_setCell_same w b 5 _ T u h
  simpa [At7] using this
theorem At7.cell6 (h : At7 w b T x0 x1 x2 x3 x4 x5 x6) : w.cell? ⟨b, 6, none⟩ = some x6 := by rw [blk_cell h]; rfl
theorem At7.set6 (h : At7 w b T x0 x1 x2 x3 x4 x5 x6) (u : Value) : At7 (w.setCell ⟨b, 6, none⟩ u) b T x0 x1 x2 x3 x4 x5 u := by
  have := heap_setCell_same w b 6 _ T u h
  simpa [At7] using this
end
def At9 (w : World) (b : Nat) (T : TypeId) (x0 x1 x2 x3 x4 x5 x6 x7 x8 : Value) : Prop := w.heap[b]? = some (.cells #[x0, x1, x2, x3, x4, x5, x6, x7, x8] T (0, 0))
section
variable {w w' : World} {b : Nat} {T : TypeId} {x0 x1 x2 x3 x4 x5 x6 x7 x8 : Value}
theorem At9.new (w : World) (T : TypeId) (x0 x1 x2 x3 x4 x5 x6 x7 x8 : Value) : At9 (w.alloc (.cells #[x0, x1, x2, x3, x4, x5, x6, x7, x8] T)) w.heap.size T x0 x1 x2 x3 x4 x5 x6 x7 x8 := heap_alloc_new w _
theorem At9.lt (h : At9 w b T x0 x1 x2 x3 x4 x5 x6 x7 x8) : b < w.heap.size := blk_lt h
theorem At9.frozen (h : At9 w b T x0 x1 x2 x3 x4 x5 x6 x7 x8) (i : Nat) : w.frozen? ⟨b, i, none⟩ = false := blk_frozen h i
theorem At9.below (h : At9 w b T x0 x1 x2 x3 x4 x5 x6 x7 x8) (hb : Below w.heap.size w w') : At9 w' b T x0 x1 x2 x3 x4 x5 x6 x7 x8 := (hb.block b h.lt).trans h
theorem At9.grown {row : Option Nat} (h : At9 w b T x0 x1 x2 x3 x4 x5 x6 x7 x8) (hg : w.grownBy w' row) (hne : some b ≠ row) : At9 w' b T x0 x1 x2 x3 x4 x5 x6 x7 x8 := (hg.block b h.lt hne).trans h
theorem At9.alloc (h : At9 w b T x0 x1 x2 x3 x4 x5 x6 x7 x8) (o : Obj) : At9 (w.alloc o) b T x0 x1 x2 x3 x4 x5 x6 x7 x8 := h.below (bal (Below.refl _ _) o)
theorem At9.setOther (h : At9 w b T x0 x1 x2 x3 x4 x5 x6 x7 x8) (g i : Nat) (u : Value) (hne : b ≠ g) : At9 (w.setCell ⟨g, i, none⟩ u) b T x0 x1 x2 x3 x4 x5 x6 x7 x8 := (Below.heap_setCell w _ u b hne).trans h
theorem At9.cell0 (h : At9 w b T x0 x1 x2 x3 x4 x5 x6 x7 x8) : w.cell? ⟨b, 0, none⟩ = some x0 := by rw [blk_cell h]; rfl
theorem At9.set0 (h : At9 w b T x0 x1 x2 x3 x4 x5 x6 x7 x8) (u : Value) : At9 (w.setCell ⟨b, 0, none⟩ u) b T u x1 x2 x3 x4 x5 x6 x7 x8 := by
  have := heap_setCell_same w b 0 _ T u h
  simpa [At9] using this
theorem At9.cell1 (h : At9 w b T x0 x1 x2 x3 x4 x5 x6 x7 x8) : w.cell? ⟨b, 1, none⟩ = some x1 := by rw [blk_cell h]; rfl
theorem At9.set1 (h : At9 w b T x0 x1 x2 x3 x4 x5 x6 x7 x8) (u : Value) : At9 (w.setCell ⟨b, 1, none⟩ u) b T x0 u x2 x3 x4 x5 x6 x7 x8 := by
  have := heap_setCell_same w b 1 _ T u h
  simpa [At9] using this
theorem At9.cell2 (h : At9 w b T x0 x1 x2 x3 x4 x5 x6 x7 x8) : w.cell? ⟨b, 2, none⟩ = some x2 := by rw [blk_cell h]; rfl
theorem At9.set2 (h : At9 w b T x0 x1 x2 x3 x4 x5 x6 x7 x8) (u : Value) : At9 (w.setCell ⟨b, 2, none⟩ u) b T x0 x1 u x3 x4 x5 x6 x7 x8 := by
  have := heap_setCell_same w b 2 _ T u h
  simpa [At9] using this
theorem At9.cell3 (h : At9 w b T x0 x1 x2 x3 x4 x5 x6 x7 x8) : w.cell? ⟨b, 3, none⟩ = some x3 := by rw [blk_cell h]; rfl
theorem At9.set3 (h : At9 w b T x0 x1 x2 x3 x4 x5 x6 x7 x8) (u : Value) : At9 (w.setCell ⟨b, 3, none⟩ u) b T x0 x1 x2 u x4 x5 x6 x7 x8 := by
  have := heap_setCell_same w b 3 _ T u h
  simpa [At9] using this
theorem At9.cell4 (h : At9 w b T x0 x1 x2 x3 x4 x5 x6 x7 x8) : w.cell? ⟨b, 4, none⟩ = some x4 := by rw [blk_cell h]; rfl
theorem At9.set4 (h : At9 w b T x0 x1 x2 x3 x4 x5 x6 x7 x8) (u : Value) : At9 (w.setCell ⟨b, 4, none⟩ u) b T x0 x1 x2 x3 u x5 x6 x7 x8 := by
  have := heap_setCell_same w b 4 _ T u h
  simpa [At9] using this
theorem At9.cell5 (h : At9 w b T x0 x1 x2 x3 x4 x5 x6 x7 x8) : w.cell? ⟨b, 5, none⟩ = some x5 := by rw [blk_cell h]; rfl
theorem At9.set5 (h : At9 w b T x0 x1 x2 x3 x4 x5 x6 x7 x8) (u : Value) : At9 (w.setCell ⟨b, 5, none⟩ u) b T x0 x1 x2 x3 x4 u x6 x7 x8 := by
  have := heap_setCell_same w b 5 _ T u h
  simpa [At9] using this
theorem At9.cell6 (h : At9 w b T x0 x1 x2 x3 x4 x5 x6 x7 x8) : w.cell? ⟨b, 6, none⟩ = some x6 := by rw [blk_cell h]; rfl
theorem At9.set6 (h : At9 w b T x0 x1 x2 x3 x4 x5 x6 x7 x8) (u : Value) : At9 (w.setCell ⟨b, 6, none⟩ u) b T x0 x1 x2 x3 x4 x5 u x7 x8 := by
  have := heap_setCell_same w b 6 _ T u h
  simpa [At9] using this
theorem At9.cell7 (h : At9 w b T x0 x1 x2 x3 x4 x5 x6 x7 x8) : w.cell? ⟨b, 7, none⟩ = some x7 := by rw [blk_cell h]; rfl
theorem At9.set7 (h : At9 w b T x0 x1 x2 x3 x4 x5 x6 x7 x8) (u : Value) : At9 (w.setCell ⟨b, 7, none⟩ u) b T x0 x1 x2 x3 x4 x5 x6 u x8 := by
  have := heap_setCell_same w b 7 _ T u h
  simpa [At9] using this
theorem At9.cell8 (h : At9 w b T x0 x1 x2 x3 x4 x5 x6 x7 x8) : w.cell? ⟨b, 8, none⟩ = some x8 := by rw [blk_cell h]; rfl
theorem At9.set8 (h : At9 w b T x0 x1 x2 x3 x4 x5 x6 x7 x8) (u : Value) : At9 (w.setCell ⟨b, 8, none⟩ u) b T x0 x1 x2 x3 x4 x5 x6 x7 u := by
  have := heap_setCell_same w b 8 _ T u h
  simpa [At9] using this
end
end Go.Proofs.YtlpfhmcjacimlaaDoor
