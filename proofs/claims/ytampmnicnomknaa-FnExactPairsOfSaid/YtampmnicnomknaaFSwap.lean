/-
  FSwap: copies of a list of numbers, and with two exchanged: spec.l00Own, l05Swap; impl.swapped.
-/
import Derived.Test.YtampmnicnomknaaApps
import Derived.Test.YtampmnicnomknaaTInt64S
import Derived.Deep.RegionHeld
namespace Go.Proofs.Ytampmnicnomknaa
open Go.RowKit
set_option linter.unusedVariables false
attribute [local go_sem ↓] Go.wp_at_zero Go.wp_at_succ
theorem flat_ints : ∀ zs : List Int, zs.flatMap encInt = zs.map (Value.int .i64)
  | [] => rfl
  | z :: zs => by rw [List.flatMap_cons, flat_ints zs]; rfl
theorem row_news {w : World} {b off : Nat} {zs : List Int} (h : Row w (some ⟨b, off, none⟩) encInt 1 zs) : ∀ j u, (zs.flatMap encInt)[j]? = some u → w.cell? ((⟨b, off, none⟩ : Addr).add j) = some u := by
  intro j u hj
  rw [flat_ints, List.getElem?_map] at hj
  cases hz : zs[j]? with
  | none => rw [hz] at hj; cases hj
  | some z =>
    rw [hz] at hj
    obtain ⟨b', off', hA, _, hc⟩ := h (by intro h0; subst h0; simp at hz)
    simp only [Option.some.injEq, Addr.mk.injEq, and_true] at hA
    obtain ⟨rfl, rfl⟩ := hA
    rw [addr_add]
    have := hc j z hz 0 u (by simpa using hj)
    simpa using this
theorem own_some {α : Type} {w : World} {base : Nat} {E : TypeId} {e : α → List Value} {s : Nat} {v : Value} {xs : List α} (h : Own w base E e s v xs) (hne : 0 < xs.length) : ∃ g cap, v = .slice (some ⟨g, 0, none⟩) xs.length cap := by
  rcases h.2.2 with ⟨hv, h2⟩ | ⟨g, cap, cs, hv, _⟩
  · exfalso; omega
  · exact ⟨g, cap, hv⟩
section
variable {P : Program} {w : World}
/-- append of all numbers of a slice to a slice of the call's own. -/
theorem app_ints {ops : Array Oper} {rest : List Oper} {o : Oper} {a : Act} {Q : Exit → Act → World → Prop} (hgd : o.guard = none) (sO xO : Operand) (t : TypeId)
    (ho : o.op = .call { callee := .builtin .append, args := #[sO, xO], argTypes := #[t, t] })
    (base : Nat) (E : TypeId) (i : TypeInfo) (z : Value) (bytes : Nat) (ht : P.underlying t = some (.slice E)) (hi : P.info? E = some i) (hz : i.zero = some z)
    (hsize : i.size = 1) (hby : i.bytes = bytes) (hzs : z.cells.size = 1)
    (v : Value) (ys : List Int) (hs : a.eval sO = v) (hown : Own w base E encInt 1 v ys)
    (b off m c : Nat) (zs : List Int) (hm : zs.length = m) (hx : a.eval xO = .slice (some ⟨b, off, none⟩) m c) (hr : Row w (some ⟨b, off, none⟩) encInt 1 zs)
    (h63 : ys.length + m ≤ maxLen) (hbytes : (ys.length + m) * bytes ≤ 140737488355328) (hbase : base ≤ w.heap.size)
    (h : ∀ v' w', Own w' base E encInt 1 v' (ys ++ zs) → w.grownBy w' v.ownBlock → wpList P ops Q rest (a.put o.dst v') w') :
    wpList P ops Q (o :: rest) a w := by
  refine wpList_append_own_at _ hgd sO xO t ho base E i z 1 bytes ht hi hz hsize hby hzs (by omega) v ys.length (ys.flatMap encInt) hs hown.2 ⟨b, off, none⟩ m c (zs.flatMap encInt) hx (by rw [flat_ints]; simp [hm]) (row_news hr) (fun u hu => by rw [flat_ints] at hu; obtain ⟨n, _, rfl⟩ := List.mem_map.1 hu; rfl) h63 hbytes hbase ?_
  intro v' w' ho' hg _ _
  refine h v' w' ⟨hown.1, ?_⟩ hg
  rw [List.flatMap_append, List.length_append, hm]
  exact ho'
end
def swapL (ps : List Int) (i k : Nat) : List Int := (ps.set i (ps.getD k 0)).set k (ps.getD i 0)
theorem swapL_len (ps : List Int) (i k : Nat) : (swapL ps i k).length = ps.length := by unfold swapL; simp
end Go.Proofs.Ytampmnicnomknaa
