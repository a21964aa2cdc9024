/-
  MapsI: a map of ints that the call itself makes, told by a function on its keys; its look-ups tell whether the key is there. No program in sight.
-/
import Derived.Test.YtampmnicnomknaaMore
import Derived.Maps.Own
import Derived.Maps.OwnOps
import Derived.Maps.Views
namespace Go.Proofs.Ytampmnicnomknaa
open Go.RowKit
open Go.Maps (Keyed)
/-- Block b is a map of ints of the call's own: f tells what a key holds. -/
def IMap (w : World) (P : Program) (K E : TypeId) (b n : Nat) (f : Lit → Option Int) : Prop :=
  ∃ D : DataW Unit, w.ownsMap P K (plainElem P E) b n D ∧ Go.Maps.IsMap D ∧ ∀ kl, WideAt.IsKeyLit kl → D.atKey kl .nil = (match f kl with | none => DataW.nil | some v => DataW.lit (Lit.int .i64 v))
section
variable {P : Program} {w w' : World} {K E : TypeId} {b n : Nat} {f : Lit → Option Int}
theorem IMap.made (w : World) (P : Program) (K E : TypeId) : IMap (w.alloc (.map #[] 0)) P K E w.heap.size 0 (fun _ => none) :=
  ⟨.map [], World.ownsMap_made w P K _, Go.Maps.isMap_empty, fun _ _ => rfl⟩
theorem IMap.lt (h : IMap w P K E b n f) : b < w.heap.size := let ⟨_, h1, _⟩ := h; h1.lt
theorem IMap.kept {row : Option Nat} (h : IMap w P K E b n f) (hg : w.grownBy w' row) (hne : some b ≠ row) : IMap w' P K E b n f := let ⟨D, h1, h2⟩ := h; ⟨D, h1.kept hg hne, h2⟩
theorem IMap.below (h : IMap w P K E b n f) (hb : Below w.heap.size w w') : IMap w' P K E b n f := h.kept (grown_of_below hb none) (by simp)
theorem IMap.drew (h : IMap w P K E b n f) : IMap w.drew P K E b n f := h
theorem IMap.look {t : TypeId} (h : IMap w P K E b n f) (kd : Keyed P K) (ht : P.underlying t = some (.map K E)) (he : P.underlying E = some (.int .i64)) (hz : (zeroValue E).run P w = .ok (.int .i64 0) w)
    {key : Value} {kl : Lit} (hkl : WideAt.IsKeyLit kl) (hkey : keyOf P K key = some kl) : (Instr.lookup t (.map (some b)) key true).run P w = .ok (.tuple #[.int .i64 ((f kl).getD 0), .bool (f kl).isSome]) w := by
  obtain ⟨D, ⟨es, clock, hb, F, hs, rfl⟩, h2, h3⟩ := h
  have h4 := h3 kl hkl
  rcases Go.Maps.fit_look true kd ht hz hb F hkey with ⟨hrun, _, hat⟩ | ⟨e0, y, _, _, hrun, hRv, hat, _⟩
  · rw [hat] at h4
    cases hf : f kl with
    | none => rw [hrun]; rfl
    | some v => rw [hf] at h4; cases h4
  · rw [hat] at h4
    obtain ⟨a, hv, hy, _⟩ := plainElem_int_inv he hRv
    rw [hy] at h4
    cases hf : f kl with
    | none => rw [hf] at h4; cases h4
    | some v =>
      rw [hf] at h4
      simp only [DataW.lit.injEq, Lit.int.injEq, true_and] at h4
      rw [hrun, hv, h4]
      rfl
theorem IMap.store {t : TypeId} (h : IMap w P K E b n f) (kd : Keyed P K) (ht : P.underlying t = some (.map K E)) (he : P.underlying E = some (.int .i64)) (hn : n < maxLen)
    {key : Value} {kl : Lit} (hkl : WideAt.IsKeyLit kl) (hkey : keyOf P K key = some kl) (x : Int) (hx : (Lit.int .i64 x).wf = true) :
    ∃ w', (Instr.mapUpdate t (.map (some b)) key (.int .i64 x)).run P w = .ok () w' ∧ IMap w' P K E b (n + 1) (fun k => if k.sameKey kl = true then some x else f k) ∧ w.grownBy w' (some b) := by
  obtain ⟨D, h1, h2, h3⟩ := h
  obtain ⟨w', hrun, hm, hg⟩ := h1.update kd ht hn hkey (plainElem_int (H := Unit) he hx)
  refine ⟨w', hrun, ⟨_, hm, h2.put _ _, fun k hk => ?_⟩, hg⟩
  by_cases hkk : k = kl
  · subst hkk
    rw [Go.Maps.atKey_put_same h2 hk]
    simp only [if_pos (WideAt.sameKey_self hk)]
  · rw [Go.Maps.atKey_put_other hkk, h3 k hk]
    have hns : k.sameKey kl ≠ true := by rw [Go.Maps.sameKey_ne hkk]; decide
    simp only [if_neg hns]
end
/-- A look-up with its yes or no, at the operation. -/
theorem wpList_lookup_imap {P : Program} (w : World) {ops : Array Oper} {rest : List Oper} {o : Oper} {a : Act} {Q : Exit → Act → World → Prop}
    (hg : o.guard = none) (m x : Operand) (t : TypeId) (hop : o.op = Op.lookup t m x true)
    (k e : TypeId) (kd : Keyed P k) (ht : P.underlying t = some (.map k e)) (he : P.underlying e = some (.int .i64)) (hz : (zeroValue e).run P w = .ok (.int .i64 0) w) (b n : Nat) (f : Lit → Option Int)
    (hm : a.eval m = .map (some b)) (hown : IMap w P k e b n f) (key : Value) (kl : Lit) (hkl : WideAt.IsKeyLit kl) (hx : a.eval x = key) (hkey : keyOf P k key = some kl)
    (hK : wpList P ops Q rest (a.put o.dst (.tuple #[.int .i64 ((f kl).getD 0), .bool (f kl).isSome])) w) : wpList P ops Q (o :: rest) a w := by
  refine wpList_plain hg fun K' hK' => ?_
  have hrun := hown.look kd ht he hz hkl hkey
  unfold Oper.wp
  simp [execOp, hop, hm, hx, hrun, Result.andThen]
  exact hK' _ _ hK
/-- A store of an int, at the operation. -/
theorem wpList_update_imap {P : Program} (w : World) {ops : Array Oper} {rest : List Oper} {o : Oper} {a : Act} {Q : Exit → Act → World → Prop}
    (hg : o.guard = none) (m x v : Operand) (t : TypeId) (hop : o.op = Op.mapUpdate t m x v)
    (k e : TypeId) (kd : Keyed P k) (ht : P.underlying t = some (.map k e)) (he : P.underlying e = some (.int .i64)) (b n : Nat) (f : Lit → Option Int) (hn : n < maxLen)
    (hm : a.eval m = .map (some b)) (hown : IMap w P k e b n f) (key : Value) (y : Int) (hy : (Lit.int .i64 y).wf = true) (kl : Lit) (hkl : WideAt.IsKeyLit kl) (hx : a.eval x = key) (hv : a.eval v = .int .i64 y) (hkey : keyOf P k key = some kl)
    (hK : ∀ w', IMap w' P k e b (n + 1) (fun q => if q.sameKey kl = true then some y else f q) → w.grownBy w' (some b) → wpList P ops Q rest (a.put o.dst undef) w') : wpList P ops Q (o :: rest) a w := by
  refine wpList_plain hg fun K' hK' => ?_
  obtain ⟨w', hrun, h1, h2⟩ := hown.store kd ht he hn hkl hkey y hy
  unfold Oper.wp
  simp [execOp, hop, hm, hx, hv, hrun, Result.andThen]
  exact hK' _ _ (hK w' h1 h2)
end Go.Proofs.Ytampmnicnomknaa
