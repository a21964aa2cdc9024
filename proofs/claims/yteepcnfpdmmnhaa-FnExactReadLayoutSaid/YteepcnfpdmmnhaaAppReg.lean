/-
  AppReg: append at an operation of a region that draws. No program in sight.
-/
import Derived.Test.YteepcnfpdmmnhaaApps
namespace Go.Proofs.Yteepcnfpdmmnhaa
open Go.RowKit
theorem append_wp {P : Program} {o : Oper} {a : Act} {w w' : World} {K : Act → World → Prop} {Q : Exit → Act → World → Prop} (sO xO : Operand) (t : TypeId)
    (ho : o.op = .call { callee := .builtin .append, args := #[sO, xO], argTypes := #[t, t] }) (v v' x : Value) (hs : a.eval sO = v) (hx : a.eval xO = x)
    (hr : (Builtin.append_ #[t, t] o.type #[v, x]).run P w = .ok v' w') (h : K (a.put o.dst v') w') : Oper.wp P o a w K Q := by
  unfold Oper.wp execOp
  simp only [ho, resolve, invoke, builtin, Sem.run_bind, Sem.run_pure, Result.andThen_ok, List.map_toArray, List.map_cons, List.map_nil, hs, hx, hr]
  exact h
end Go.Proofs.Yteepcnfpdmmnhaa
