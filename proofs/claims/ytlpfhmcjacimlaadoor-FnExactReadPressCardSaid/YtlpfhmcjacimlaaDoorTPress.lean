/-
  TPress: contracts of the laws helpers on Press: to, sz, eq and their likes on slices. Printed by wip/gen_types.py.
-/
import Derived.Test.YtlpfhmcjacimlaaDoorData
namespace Go.Proofs.YtlpfhmcjacimlaaDoor
open Go.RowKit
set_option linter.unusedVariables false
attribute [local go_sem ↓] Go.wp_at_zero Go.wp_at_succ
set_option maxHeartbeats 400000 in
theorem toPress_any (x : TPress) (w : World) :
    Calls Tryd.prog 10 #[.agg #[.int .i64 x.1, .bool x.2]] w fun e w' => e = .returned (.agg #[.int .i64 x.1, .bool x.2]) ∧ Below w.heap.size w w' := by
  go_enter Tryd.func10, Tryd.ntmps10
  go_wp2
  exact bodyPost_ret (v := .agg #[.int .i64 x.1, .bool x.2]) (by simp [results, Tryd.results10, go_sem]) rfl ⟨rfl, by repeat (first | exact Below.refl _ _ | (apply bal))⟩
set_option maxHeartbeats 400000 in
theorem eqPress_any (x y : TPress) (w : World) :
    Calls Tryd.prog 16 #[.agg #[.int .i64 x.1, .bool x.2], .agg #[.int .i64 y.1, .bool y.2]] w fun e w' => ∃ b : Bool, e = .returned (.bool b) ∧ (b = true ↔ x = y) ∧ Below w.heap.size w w' := by
  obtain ⟨x0, x1⟩ := x
  obtain ⟨y0, y1⟩ := y
  go_enter Tryd.func16, Tryd.ntmps16
  go_wp2
  all_goals go_ret
  all_goals exact ⟨_, rfl, by simp_all, by repeat (first | exact Below.refl _ _ | (apply bal))⟩
theorem guardPress : Tryd.prog.eqGuardType Tryd.prog.depth 27 = false := by kernel_rfl
theorem nePress (x y : TPress) (w : World) : (binOp .neq 27 (.agg #[.int .i64 x.1, .bool x.2]) (.agg #[.int .i64 y.1, .bool y.2])).run Tryd.prog w = .ok (.bool (decide (x ≠ y))) w := by
  have hS : Tryd.prog.underlying 27 = some (.struct (Tryd.prog.fieldsOf 27)) := by kernel_rfl
  have hp : Tryd.prog.stoodInHeld 27 = false := by kernel_rfl
  have u0 := Tryd.underlying2
  have u1 := Tryd.underlying4
  have a0 := Tryd.isAgg2
  have a1 := Tryd.isAgg4
  have z0 := Tryd.sizeOf2
  have z1 := Tryd.sizeOf4
  rw [run_neq_struct, show (10000 : Nat) = 9999 + 1 from rfl, run_equalIn_agg w 9999 _ _ _ hS hp]
  obtain ⟨x0, x1⟩ := x
  obtain ⟨y0, y1⟩ := y
  simp only [Program.fieldsOf, Tryd.underlying27]
  go_simp
  by_cases h1 : x0 = y0 <;> by_cases h2 : x1 = y1 <;> simp [h1, h2]
end Go.Proofs.YtlpfhmcjacimlaaDoor
