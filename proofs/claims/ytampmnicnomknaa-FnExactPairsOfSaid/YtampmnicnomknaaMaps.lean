/-
  Maps: a map of bools that the call itself makes, told by a function on its keys. No program in sight.
-/
import Derived.Test.YtampmnicnomknaaMore
import Derived.Maps.Own
import Derived.Maps.OwnOps
import Derived.Maps.Views
namespace Go.Proofs.Ytampmnicnomknaa
open Go.RowKit
open Go.Maps (Keyed)
theorem plainElem_bool_inv {P : Program} {e : TypeId} (he : P.underlying e = some .bool) {v : Value} {z : DataW Unit × List MemPlace} (h : plainElem P e v = some z) : ∃ x, v = .bool x ∧ z = (.lit (.bool x), []) := by
  unfold plainElem at h
  rw [he] at h
  cases v <;> simp at h
  exact ⟨_, rfl, h.symm⟩
/-- Block b is a map of bools of the call's own: f tells what a key holds, false where there is none. -/
def BMap (w : World) (P : Program) (K E : TypeId) (b n : Nat) (f : Lit → Bool) : Prop :=
  ∃ D : DataW Unit, w.ownsMap P K (plainElem P E) b n D ∧ Go.Maps.IsMap D ∧ ∀ kl, WideAt.IsKeyLit kl → D.atKey kl (.lit (.bool false)) = .lit (.bool (f kl))
section
variable {P : Program} {w w' : World} {K E : TypeId} {b n : Nat} {f : Lit → Bool}
theorem BMap.made (w : World) (P : Program) (K E : TypeId) : BMap (w.alloc (.map #[] 0)) P K E w.heap.size 0 (fun _ => false) :=
  ⟨.map [], World.ownsMap_made w P K _, Go.Maps.isMap_empty, fun _ _ => rfl⟩
theorem BMap.lt (h : BMap w P K E b n f) : b < w.heap.size := let ⟨_, h1, _⟩ := h; h1.lt
theorem BMap.mono (h : BMap w P K E b n f) {n' : Nat} (hn : n ≤ n') : BMap w P K E b n' f := let ⟨D, h1, h2⟩ := h; ⟨D, h1.mono hn, h2⟩
theorem BMap.kept {row : Option Nat} (h : BMap w P K E b n f) (hg : w.grownBy w' row) (hne : some b ≠ row) : BMap w' P K E b n f := let ⟨D, h1, h2⟩ := h; ⟨D, h1.kept hg hne, h2⟩
theorem BMap.below (h : BMap w P K E b n f) (hb : Below w.heap.size w w') : BMap w' P K E b n f := h.kept (grown_of_below hb none) (by simp)
theorem BMap.alloc (h : BMap w P K E b n f) (o : Obj) : BMap (w.alloc o) P K E b n f := let ⟨D, h1, h2⟩ := h; ⟨D, h1.alloc o, h2⟩
theorem BMap.drew (h : BMap w P K E b n f) : BMap w.drew P K E b n f := h
theorem BMap.look {t : TypeId} (h : BMap w P K E b n f) (kd : Keyed P K) (ht : P.underlying t = some (.map K E)) (he : P.underlying E = some .bool) (hz : (zeroValue E).run P w = .ok (.bool false) w)
    {key : Value} {kl : Lit} (hkl : WideAt.IsKeyLit kl) (hkey : keyOf P K key = some kl) : (Instr.lookup t (.map (some b)) key false).run P w = .ok (.bool (f kl)) w := by
  obtain ⟨D, h1, h2, h3⟩ := h
  obtain ⟨v, ps, hrun, hv⟩ := h1.lookup kd ht hz (plainElem_bool (H := Unit) he false) hkey
  rw [h3 kl hkl] at hv
  obtain ⟨x, rfl, hx⟩ := plainElem_bool_inv he hv
  simp only [Prod.mk.injEq, DataW.lit.injEq, Lit.bool.injEq] at hx
  rw [hrun, hx.1]
theorem BMap.store {t : TypeId} (h : BMap w P K E b n f) (kd : Keyed P K) (ht : P.underlying t = some (.map K E)) (he : P.underlying E = some .bool) (hn : n < maxLen)
    {key : Value} {kl : Lit} (hkl : WideAt.IsKeyLit kl) (hkey : keyOf P K key = some kl) (x : Bool) :
    ∃ w', (Instr.mapUpdate t (.map (some b)) key (.bool x)).run P w = .ok () w' ∧ BMap w' P K E b (n + 1) (fun k => if k.sameKey kl = true then x else f k) ∧ w.grownBy w' (some b) := by
  obtain ⟨D, h1, h2, h3⟩ := h
  obtain ⟨w', hrun, hm, hg⟩ := h1.update kd ht hn hkey (plainElem_bool (H := Unit) he x)
  refine ⟨w', hrun, ⟨_, hm, h2.put _ _, fun k hk => ?_⟩, hg⟩
  by_cases hkk : k = kl
  · subst hkk
    rw [Go.Maps.atKey_put_same h2 hk]
    show _ = DataW.lit (Lit.bool (if k.sameKey k = true then x else f k))
    rw [if_pos (WideAt.sameKey_self hk)]
  · rw [Go.Maps.atKey_put_other hkk, h3 k hk]
    show _ = DataW.lit (Lit.bool (if k.sameKey kl = true then x else f k))
    rw [if_neg (by rw [Go.Maps.sameKey_ne hkk]; decide)]
end
/-- A look-up of a bool, at the operation. -/
theorem wpList_lookup_bmap {P : Program} (w : World) {ops : Array Oper} {rest : List Oper} {o : Oper} {a : Act} {Q : Exit → Act → World → Prop}
    (hg : o.guard = none) (m x : Operand) (t : TypeId) (hop : o.op = Op.lookup t m x false)
    (k e : TypeId) (kd : Keyed P k) (ht : P.underlying t = some (.map k e)) (he : P.underlying e = some .bool) (hz : (zeroValue e).run P w = .ok (.bool false) w) (b n : Nat) (f : Lit → Bool)
    (hm : a.eval m = .map (some b)) (hown : BMap w P k e b n f) (key : Value) (kl : Lit) (hkl : WideAt.IsKeyLit kl) (hx : a.eval x = key) (hkey : keyOf P k key = some kl)
    (hK : wpList P ops Q rest (a.put o.dst (.bool (f kl))) w) : wpList P ops Q (o :: rest) a w := by
  refine wpList_plain hg fun K' hK' => ?_
  have hrun := hown.look kd ht he hz hkl hkey
  unfold Oper.wp
  simp [execOp, hop, hm, hx, hrun, Result.andThen]
  exact hK' _ _ hK
/-- A store of a bool, at the operation. -/
theorem wpList_update_bmap {P : Program} (w : World) {ops : Array Oper} {rest : List Oper} {o : Oper} {a : Act} {Q : Exit → Act → World → Prop}
    (hg : o.guard = none) (m x v : Operand) (t : TypeId) (hop : o.op = Op.mapUpdate t m x v)
    (k e : TypeId) (kd : Keyed P k) (ht : P.underlying t = some (.map k e)) (he : P.underlying e = some .bool) (b n : Nat) (f : Lit → Bool) (hn : n < maxLen)
    (hm : a.eval m = .map (some b)) (hown : BMap w P k e b n f) (key : Value) (y : Bool) (kl : Lit) (hkl : WideAt.IsKeyLit kl) (hx : a.eval x = key) (hv : a.eval v = .bool y) (hkey : keyOf P k key = some kl)
    (hK : ∀ w', BMap w' P k e b (n + 1) (fun q => if q.sameKey kl = true then y else f q) → w.grownBy w' (some b) → wpList P ops Q rest (a.put o.dst undef) w') : wpList P ops Q (o :: rest) a w := by
  refine wpList_plain hg fun K' hK' => ?_
  obtain ⟨w', hrun, h1, h2⟩ := hown.store kd ht he hn hkl hkey y
  unfold Oper.wp
  simp [execOp, hop, hm, hx, hv, hrun, Result.andThen]
  exact hK' _ _ (hK w' h1 h2)
/-- What grew by one row above B is as it was below B. -/
theorem below_grown {B : Nat} {a w w' : World} {g : Nat} (h : Below B a w) (hg : w.grownBy w' (some g)) (hB : B ≤ w.heap.size) (hr : B ≤ g) : Below B a w' := h.grown hg hB (fun k hk => by injection hk with hk; omega)
end Go.Proofs.Ytampmnicnomknaa
