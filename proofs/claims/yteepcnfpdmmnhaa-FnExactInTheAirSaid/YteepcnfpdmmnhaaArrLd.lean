/-
  ArrLd: an array variable of the call's own that is loaded whole, and its elements taken by index. No program in sight.
-/
import Derived.Test.YteepcnfpdmmnhaaMore
import Derived.Laws.Rows
namespace Go.Proofs.Yteepcnfpdmmnhaa
open Go.RowKit
theorem run_index_arr {P : Program} {T e : TypeId} {n : Nat} (hu : P.underlying T = some (.array n e)) (hs : ∀ w, (sizeOf e).run P w = .ok 1 w) (ha : ∀ w, (isAgg e).run P w = .ok false w) (f : Nat → Value) (i : Nat) (hi : i < n) (w : World) :
    (Instr.index T (.agg ((List.range n).map f).toArray) (.int .i64 (i : Int))).run P w = .ok (f i) w := by
  have h1 : (underlying T).run P w = .ok (.array n e) w := run_underlying hu w
  have h2 : 0 ≤ (i : Int) ∧ (i : Int) < (n : Int) := by omega
  simp [Instr.index, asIntOf, Sem.run_bind, h1, h2, hs, part, ha, hi]
theorem wp_load_rowIs {P : Program} {o : Oper} {a : Act} {w : World} {K : Act → World → Prop} {Q : Exit → Act → World → Prop} (ty e : TypeId) (x : Operand) (ho : o.op = .load ty x) (g : Nat) (hx : a.eval x = .pointer (some ⟨g, 0, none⟩))
    {t : TypeId} {n : Nat} {f : Nat → Value} (h : w.rowIs g t n f) (hu : P.underlying ty = some (.array n e)) (hi : (P.info? ty).map (·.size) = some n) (hK : K (a.put o.dst (.agg ((List.range n).map f).toArray)) w) : o.wp P a w K Q := by
  obtain ⟨cs, hh, hn, hc⟩ := h
  have he : cs = ((List.range n).map f).toArray := by
    apply Array.ext'
    apply List.ext_getElem?
    intro i
    rw [Array.getElem?_toList]
    by_cases hi2 : i < n
    · rw [hc i hi2]; simp [hi2]
    · rw [Array.getElem?_eq_none (by omega)]; rw [List.getElem?_eq_none (by simp; omega)]
  rw [← he] at hK
  exact wp_load_row ty x ho g hx t cs (0, 0) _ hh hu rfl (by rw [hi, hn]) hK
end Go.Proofs.Yteepcnfpdmmnhaa
