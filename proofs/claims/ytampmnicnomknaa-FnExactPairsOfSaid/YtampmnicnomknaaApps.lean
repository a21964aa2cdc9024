/-
  Apps: append of one element to a slice of the call's own. No program in sight.
-/
import Derived.Test.YtampmnicnomknaaMore
namespace Go.Proofs.Ytampmnicnomknaa
open Go.RowKit
theorem below_own {α : Type} {w w' : World} {base B : Nat} {E : TypeId} {e : α → List Value} {s : Nat} {v : Value} {xs : List α} (h : Own w base E e s v xs) (hg : w.grownBy w' v.ownBlock) (hB : B ≤ base) (hB2 : B ≤ w.heap.size) : Below B w w' :=
  ⟨hg.os, hg.tape, hg.output, hg.size, fun i hi => hg.block i (by omega) (fun hh => by have := (h.2.lt i hh.symm).1; omega)⟩
section
variable {P : Program} {w : World}
theorem app_own {α : Type} {e : α → List Value} {ops : Array Oper} {rest : List Oper} {o : Oper} {a : Act} {Q : Exit → Act → World → Prop} (hgd : o.guard = none) (sO xO : Operand) (t : TypeId)
    (ho : o.op = .call { callee := .builtin .append, args := #[sO, xO], argTypes := #[t, t] })
    (base : Nat) (E : TypeId) (i : TypeInfo) (z : Value) (size bytes : Nat) (ht : P.underlying t = some (.slice E)) (hi : P.info? E = some i) (hz : i.zero = some z)
    (hsize : i.size = size) (hby : i.bytes = bytes) (hzs : z.cells.size = size) (hsz : 0 < size)
    (v : Value) (ys : List α) (hs : a.eval sO = v) (hown : Own w base E e size v ys)
    (ad : Addr) (c : Nat) (x : α) (hx : a.eval xO = .slice (some ad) 1 c) (hnews : ∀ j u, (e x)[j]? = some u → w.cell? (ad.add j) = some u) (h1 : ∀ u ∈ e x, u.oneCell' = true)
    (h63 : ys.length + 1 ≤ maxLen) (hbytes : (ys.length + 1) * bytes ≤ 140737488355328) (hbase : base ≤ w.heap.size)
    (h : ∀ v' w', Own w' base E e size v' (ys ++ [x]) → w.grownBy w' v.ownBlock → wpList P ops Q rest (a.put o.dst v') w') :
    wpList P ops Q (o :: rest) a w := by
  refine wpList_append_own_at _ hgd sO xO t ho base E i z size bytes ht hi hz hsize hby hzs hsz v ys.length (ys.flatMap e) hs hown.2 ad 1 c (e x) hx (by rw [hown.1, Nat.one_mul]) hnews h1 h63 hbytes hbase ?_
  intro v' w' ho' hg _ _
  refine h v' w' ⟨hown.1, ?_⟩ hg
  rw [List.flatMap_append, List.length_append]
  simpa using ho'
end
theorem Own.lit0 {α : Type} {e : α → List Value} {s : Nat} (w : World) (hs : ∀ x, (e x).length = s) (base : Nat) (E : TypeId) (hb : base ≤ w.heap.size) :
    Own (w.alloc (.cells #[] E)) base E e s (.slice (some ⟨w.heap.size, 0, none⟩) 0 0) ([] : List α) :=
  ⟨hs, World.ownsRow_lit w #[] 0 hb (by unfold maxLen; omega) (by simp)⟩
theorem cells_two_new (w : World) (x y : Value) (t : TypeId) : ∀ j u, [x, y][j]? = some u → (w.alloc (.cells #[x, y] t)).cell? ((⟨w.heap.size, 0, none⟩ : Addr).add j) = some u := by
  intro j u hj
  match j, hj with
  | 0, hj => simp at hj; subst hj; simp [Addr.add, go_sem]
  | 1, hj => simp at hj; subst hj; simp [Addr.add, go_sem]
/-- A list of the call's own and a code: the given ones; new blocks at most. -/
def RLE {α : Type} (e0 : α → List Value) (s : Nat) (E : TypeId) (m : List α × Int) (w : World) (e : Ending) (w' : World) : Prop :=
  ∃ (v : Value) (ys : List α) (n : Int), e = .returned (.tuple #[v, .int .i64 n]) ∧ (ys, n) = m ∧ ys.length ≤ 1048576 ∧ Own w' w.heap.size E e0 s v ys ∧ Below w.heap.size w w'
theorem RLE.mk {α : Type} {e0 : α → List Value} {s : Nat} {E : TypeId} {m : List α × Int} {v : Value} {ys : List α} {n : Int} {w w' : World} (h : (ys, n) = m) (hl : ys.length ≤ 1048576) (ho : Own w' w.heap.size E e0 s v ys) (hb : Below w.heap.size w w') :
    RLE e0 s E m w (.returned (.tuple #[v, .int .i64 n])) w' := ⟨v, ys, n, rfl, h, hl, ho, hb⟩
theorem RLE.no {α : Type} {e0 : α → List Value} {s : Nat} {E : TypeId} {m : List α × Int} {n : Int} {w w' : World} (he : ∀ x, (e0 x).length = s) (h : ([], n) = m) (hb : Below w.heap.size w w') :
    RLE e0 s E m w (.returned (.tuple #[.slice none 0 0, .int .i64 n])) w' := ⟨_, [], n, rfl, h, by simp, Own.nilv w' he w.heap.size E, hb⟩
end Go.Proofs.Ytampmnicnomknaa
