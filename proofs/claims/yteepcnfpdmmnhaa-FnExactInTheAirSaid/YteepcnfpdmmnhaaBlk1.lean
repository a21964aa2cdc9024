/-
  Blk1: a block of the call's own that holds a struct of one cell, told whole. No program in sight.
-/
import Derived.Test.YteepcnfpdmmnhaaBlks
namespace Go.Proofs.Yteepcnfpdmmnhaa
open Go.RowKit
def At1 (w : World) (b : Nat) (T : TypeId) (x0 : Value) : Prop := w.heap[b]? = some (.cells #[x0] T (0, 0))
section
variable {w w' : World} {b : Nat} {T : TypeId} {x0 : Value}
theorem At1.new (w : World) (T : TypeId) (x0 : Value) : At1 (w.alloc (.cells #[x0] T)) w.heap.size T x0 := heap_alloc_new w _
theorem At1.lt (h : At1 w b T x0) : b < w.heap.size := blk_lt h
theorem At1.frozen (h : At1 w b T x0) (i : Nat) : w.frozen? ⟨b, i, none⟩ = false := blk_frozen h i
theorem At1.below (h : At1 w b T x0) (hb : Below w.heap.size w w') : At1 w' b T x0 := (hb.block b h.lt).trans h
theorem At1.grown {row : Option Nat} (h : At1 w b T x0) (hg : w.grownBy w' row) (hne : some b ≠ row) : At1 w' b T x0 := (hg.block b h.lt hne).trans h
theorem At1.alloc (h : At1 w b T x0) (o : Obj) : At1 (w.alloc o) b T x0 := h.below (bal (Below.refl _ _) o)
theorem At1.setOther (h : At1 w b T x0) (g i : Nat) (u : Value) (hne : b ≠ g) : At1 (w.setCell ⟨g, i, none⟩ u) b T x0 := (Below.heap_setCell w _ u b hne).trans h
theorem At1.cell0 (h : At1 w b T x0) : w.cell? ⟨b, 0, none⟩ = some x0 := by rw [blk_cell h]; rfl
theorem At1.set0 (h : At1 w b T x0) (u : Value) : At1 (w.setCell ⟨b, 0, none⟩ u) b T u := by
  have := heap_setCell_same w b 0 _ T u h
  simpa [At1] using this
end
end Go.Proofs.Yteepcnfpdmmnhaa
