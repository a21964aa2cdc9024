/-
  AppAt: append of one element, telling where the new row lies. No program in sight.
-/
import Derived.Test.YtampmnicnomknaaApps
namespace Go.Proofs.Ytampmnicnomknaa
open Go.RowKit
section
variable {P : Program} {w : World}
theorem app_own_at {α : Type} {e : α → List Value} {ops : Array Oper} {rest : List Oper} {o : Oper} {a : Act} {Q : Exit → Act → World → Prop} (hgd : o.guard = none) (sO xO : Operand) (t : TypeId)
    (ho : o.op = .call { callee := .builtin .append, args := #[sO, xO], argTypes := #[t, t] })
    (base : Nat) (E : TypeId) (i : TypeInfo) (z : Value) (size bytes : Nat) (ht : P.underlying t = some (.slice E)) (hi : P.info? E = some i) (hz : i.zero = some z)
    (hsize : i.size = size) (hby : i.bytes = bytes) (hzs : z.cells.size = size) (hsz : 0 < size)
    (v : Value) (ys : List α) (hs : a.eval sO = v) (hown : Own w base E e size v ys)
    (ad : Addr) (c : Nat) (x : α) (hx : a.eval xO = .slice (some ad) 1 c) (hnews : ∀ j u, (e x)[j]? = some u → w.cell? (ad.add j) = some u) (h1 : ∀ u ∈ e x, u.oneCell' = true)
    (h63 : ys.length + 1 ≤ maxLen) (hbytes : (ys.length + 1) * bytes ≤ 140737488355328) (hbase : base ≤ w.heap.size)
    (h : ∀ v' w', Own w' base E e size v' (ys ++ [x]) → w.grownBy w' v.ownBlock → (v'.ownBlock = v.ownBlock ∨ v'.ownBlock = some w.heap.size) → wpList P ops Q rest (a.put o.dst v') w') :
    wpList P ops Q (o :: rest) a w := by
  refine wpList_append_own_at _ hgd sO xO t ho base E i z size bytes ht hi hz hsize hby hzs hsz v ys.length (ys.flatMap e) hs hown.2 ad 1 c (e x) hx (by rw [hown.1, Nat.one_mul]) hnews h1 h63 hbytes hbase ?_
  intro v' w' ho' hg _ hat
  refine h v' w' ⟨hown.1, ?_⟩ hg hat
  rw [List.flatMap_append, List.length_append]
  simpa using ho'
end
/-- A slice's own block is another one than b. -/
def Apart (v : Value) (b : Nat) : Prop := ∀ g, v.ownBlock = some g → g ≠ b
theorem Apart.next {v v' : Value} {b n : Nat} (h : Apart v b) (hb : b < n) (hv : v'.ownBlock = v.ownBlock ∨ v'.ownBlock = some n) : Apart v' b := by
  intro g hg
  rcases hv with h1 | h1
  · exact h g (by rw [← h1]; exact hg)
  · rw [h1] at hg; injection hg with hg; omega
theorem Apart.ne {v : Value} {b : Nat} (h : Apart v b) : some b ≠ v.ownBlock := fun hh => h b hh.symm rfl
theorem Apart.none {b : Nat} {n c : Nat} : Apart (.slice none n c) b := fun g hg => by simp [Value.ownBlock] at hg
/-- A cell of another block behind growth. -/
theorem grown_cell {w w' : World} {row : Option Nat} (hg : w.grownBy w' row) {b o : Nat} (hb : b < w.heap.size) (hne : some b ≠ row) : w'.cell? ⟨b, o, none⟩ = w.cell? ⟨b, o, none⟩ :=
  World.cell?_of_block (a := ⟨b, o, none⟩) (hg.block b hb hne)
theorem grown_frozen {w w' : World} {row : Option Nat} (hg : w.grownBy w' row) {b o : Nat} (hb : b < w.heap.size) (hne : some b ≠ row) : w'.frozen? ⟨b, o, none⟩ = w.frozen? ⟨b, o, none⟩ :=
  World.frozen?_of_block (a := ⟨b, o, none⟩) (hg.block b hb hne)
end Go.Proofs.Ytampmnicnomknaa
