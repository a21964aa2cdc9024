/-
  Res3: results of a list and two numbers. No program in sight.
-/
import Derived.Test.YteepcnfpdmmnhaaApps
namespace Go.Proofs.Yteepcnfpdmmnhaa
open Go.RowKit
/-- A list of the call's own and two numbers: the given ones; new blocks at most. -/
def RL3 {α : Type} (e0 : α → List Value) (s : Nat) (E : TypeId) (m : List α × Int × Int) (w : World) (e : Ending) (w' : World) : Prop :=
  ∃ (v : Value) (ys : List α) (n1 n2 : Int), e = .returned (.tuple #[v, .int .i64 n1, .int .i64 n2]) ∧ (ys, n1, n2) = m ∧ ys.length ≤ 1048576 ∧ Own w' w.heap.size E e0 s v ys ∧ Below w.heap.size w w'
theorem RL3.mk {α : Type} {e0 : α → List Value} {s : Nat} {E : TypeId} {m : List α × Int × Int} {v : Value} {ys : List α} {n1 n2 : Int} {w w' : World} (h : (ys, n1, n2) = m) (hl : ys.length ≤ 1048576) (ho : Own w' w.heap.size E e0 s v ys) (hb : Below w.heap.size w w') :
    RL3 e0 s E m w (.returned (.tuple #[v, .int .i64 n1, .int .i64 n2])) w' := ⟨v, ys, n1, n2, rfl, h, hl, ho, hb⟩
theorem RL3.no {α : Type} {e0 : α → List Value} {s : Nat} {E : TypeId} {m : List α × Int × Int} {n1 n2 : Int} {w w' : World} (he : ∀ x, (e0 x).length = s) (h : ([], n1, n2) = m) (hb : Below w.heap.size w w') :
    RL3 e0 s E m w (.returned (.tuple #[.slice none 0 0, .int .i64 n1, .int .i64 n2])) w' := ⟨_, [], n1, n2, rfl, h, by simp, Own.nilv w' he w.heap.size E, hb⟩
end Go.Proofs.Yteepcnfpdmmnhaa
