/-
  FPress: the press that prints a letter: impl.pressOf, PressFor spec and impl.
-/
import Derived.Test.YteepcnfpdmmnhaaFKeysS
import Derived.Test.YteepcnfpdmmnhaaFKeysI
import Derived.Test.YteepcnfpdmmnhaaTPress
namespace Go.Proofs.Yteepcnfpdmmnhaa
open Go.RowKit
set_option linter.unusedVariables false
attribute [local go_sem ↓] Go.wp_at_zero Go.wp_at_succ
set_option linter.unusedSimpArgs false
def RPI (m : TPress × Int) (w : World) (e : Ending) (w' : World) : Prop := ∃ (r0 : TPress) (r1 : Int), e = .returned (.tuple #[.agg #[.int .i64 r0.1, .bool r0.2], .int .i64 r1]) ∧ (r0, r1) = m ∧ Below w.heap.size w w'
noncomputable def M_PressFor (ks : List TKey) (c : ByteArray) : TPress × Int :=
  if KeysOk ks [] then (if LetterOk c then (if HasL ks c then (findL ks c, 0) else ((0, false), 3)) else ((0, false), 2)) else ((0, false), 1)
theorem rowE {α : Type} (w : World) (A : Option Addr) (e : α → List Value) (s : Nat) : Row w A e s ([] : List α) := fun h => absurd rfl h
/-- A press lies in block b. -/
def AtPr (w : World) (b : Nat) (x : TPress) : Prop := b < w.heap.size ∧ (w.cell? ⟨b, 0, none⟩ = some (.int .i64 x.1) ∧ w.cell? ⟨b, 1, none⟩ = some (.bool x.2)) ∧ w.frozen? ⟨b, 0, none⟩ = false ∧ w.frozen? ⟨b, 1, none⟩ = false
theorem AtPr.new (w : World) (t : TypeId) (x : TPress) : AtPr (w.alloc (.cells #[.int .i64 x.1, .bool x.2] t)) w.heap.size x := ⟨by simp, ⟨by simp [go_sem], by simp [go_sem]⟩, by simp [go_sem], by simp [go_sem]⟩
theorem AtPr.next {B : Nat} {w w' : World} {b : Nat} {x : TPress} (h : AtPr w b x) (hb : Below B w w') (hB : b < B) : AtPr w' b x :=
  ⟨Nat.lt_of_lt_of_le h.1 hb.size, ⟨(hb.cell (p := ⟨b, 0, none⟩) hB).trans h.2.1.1, (hb.cell (p := ⟨b, 1, none⟩) hB).trans h.2.1.2⟩, (hb.frozen (p := ⟨b, 0, none⟩) hB).trans h.2.2.1, (hb.frozen (p := ⟨b, 1, none⟩) hB).trans h.2.2.2⟩
end Go.Proofs.Yteepcnfpdmmnhaa
