/-
  MarksB: a store into a row of the call's own, as growth of that row. No program in sight.
-/
import Derived.Test.YtampmnicnomknaaFSwap
namespace Go.Proofs.Ytampmnicnomknaa
open Go.RowKit
theorem grown_set (w : World) (b o : Nat) (u : Value) : w.grownBy (w.setCell ⟨b, o, none⟩ u) (some b) := by
  exact ⟨rfl, rfl, rfl, by simp [World.setCell], fun i hi hne => Below.heap_setCell _ _ _ _ (fun hh => hne (by rw [hh]))⟩
theorem take_set_app {α : Type} (zs : List α) (i : Nat) (y : α) (h : i < zs.length) : (zs.set i y).take (i + 1) = zs.take i ++ [y] := by
  rw [List.take_succ_eq_append_getElem (by rw [List.length_set]; exact h), List.take_set_of_le (Nat.le_refl _), List.getElem_set_self]
end Go.Proofs.Ytampmnicnomknaa
