/-
  FJam: whether two strokes jam: spec.l03Jam, (impl.Basket).jams.
-/
import Derived.Test.YtbcomfobnhekpaaFStrokes
namespace Go.Proofs.Ytbcomfobnhekpaa
open Go.RowKit
set_option linter.unusedVariables false
attribute [local go_sem ↓] Go.wp_at_zero Go.wp_at_succ
def jamP (x : TBasket) (s t : TStroke) : Prop := ((s.2 - t.2).natAbs : Int) < waitV x s.1 t.1
instance decJamP (x : TBasket) (s t : TStroke) : Decidable (jamP x s t) := inferInstanceAs (Decidable (_ < _))
theorem jamP_comm (x : TBasket) (s t : TStroke) : jamP x s t ↔ jamP x t s := by
  unfold jamP
  rw [waitV_comm x s.1 t.1]
  constructor <;> intro h <;> omega
set_option maxHeartbeats 1600000 in
theorem l03Jam_any (x : TBasket) (h : BasketOk x) (s1 s2 t1 t2 : Int) (hs1 : 0 ≤ s1 ∧ s1 ≤ 60) (ht1 : 0 ≤ t1 ∧ t1 ≤ 60) (hs2 : 0 ≤ s2 ∧ s2 ≤ 1000000) (ht2 : 0 ≤ t2 ∧ t2 ≤ 1000000) (w : World) :
    Calls Try.prog 103 #[.agg #[.int .i64 x.1, .int .i64 x.2.1, .int .i64 x.2.2.1, .int .i64 x.2.2.2.1, .int .i64 x.2.2.2.2], .agg #[.int .i64 s1, .int .i64 s2], .agg #[.int .i64 t1, .int .i64 t2]] w fun e w' => e = .returned (.bool (decide (jamP x (s1, s2) (t1, t2)))) ∧ Below w.heap.size w w' := by
  obtain ⟨W0, hW0⟩ : ∃ W0, W0 = (((w.alloc (.cells #[.int .i64 x.1, .int .i64 x.2.1, .int .i64 x.2.2.1, .int .i64 x.2.2.2.1, .int .i64 x.2.2.2.2] 32)).alloc (.cells #[.int .i64 s1, .int .i64 s2] 103)).alloc (.cells #[.int .i64 t1, .int .i64 t2] 103)) := ⟨_, rfl⟩
  have hB0 : Below w.heap.size w W0 := by rw [hW0]; exact bal (bal (bal (Below.refl _ _) _) _) _
  have k0 : AtBasket W0 w.heap.size x := by rw [hW0]; refine ⟨?_, ?_, ?_, ?_, ?_, ?_⟩ <;> simp [go_sem] <;> try omega
  have ks : AtStroke W0 (w.heap.size + 1) (s1, s2) := by rw [hW0]; refine ⟨?_, ?_, ?_⟩ <;> simp [go_sem] <;> try omega
  have kt : AtStroke W0 (w.heap.size + 2) (t1, t2) := by rw [hW0]; refine ⟨?_, ?_, ?_⟩ <;> simp [go_sem] <;> try omega
  have HW := Lib.hid hW0
  clear hW0
  have wb := waitV_bd x h s1 t1
  have z1 : IntKind.i64.wrap (s2 - t2) = s2 - t2 := IntWalk.i64_in _ (by omega)
  have q1 : -9223372036854775807 ≤ s2 - t2 := by omega
  have q2 : s2 - t2 ≤ 9223372036854775807 := by omega
  go_enter Try.func103, Try.ntmps103
  go_wp2_with fail
  rw [← HW.out]
  go_region_held3 (fun w' => (w'.cell? ⟨w.heap.size, 0, none⟩ = some (.int .i64 x.1) ∧ w'.cell? ⟨w.heap.size, 1, none⟩ = some (.int .i64 x.2.1) ∧ w'.cell? ⟨w.heap.size, 2, none⟩ = some (.int .i64 x.2.2.1) ∧ w'.cell? ⟨w.heap.size, 3, none⟩ = some (.int .i64 x.2.2.2.1) ∧ w'.cell? ⟨w.heap.size, 4, none⟩ = some (.int .i64 x.2.2.2.2)) ∧ (w'.cell? ⟨w.heap.size + 1, 0, none⟩ = some (.int .i64 s1) ∧ w'.cell? ⟨w.heap.size + 1, 1, none⟩ = some (.int .i64 s2)) ∧ (w'.cell? ⟨w.heap.size + 2, 0, none⟩ = some (.int .i64 t1) ∧ w'.cell? ⟨w.heap.size + 2, 1, none⟩ = some (.int .i64 t2))) (first | exact ⟨k0.2, ks.2, kt.2⟩) (first | (go_at_call 140; refine (l00Size_any (s2 - t2) q1 q2 _).mono ?_; rintro e w2 ⟨rfl, rfl⟩) | (go_at_call 136; refine (l03Wait_any x h s1 t1 hs1 ht1 _).mono ?_; rintro e w3 ⟨rfl, hb3⟩; (first | replace hB0 := bnext hB0 hb3 | replace hB0 := bnext hB0 (bundrew hb3)); (first | replace k0 := k0.next hb3 | replace k0 := k0.next (bundrew hb3)); (first | replace ks := ks.next hb3 | replace ks := ks.next (bundrew hb3)); (first | replace kt := kt.next hb3 | replace kt := kt.next (bundrew hb3))))
  all_goals go_wp2
  all_goals go_ret
  all_goals exact ⟨rfl, hB0⟩
set_option maxHeartbeats 1600000 in
theorem jams_any (x : TBasket) (h : BasketOk x) (s1 s2 t1 t2 : Int) (hs1 : 0 ≤ s1 ∧ s1 ≤ 60) (ht1 : 0 ≤ t1 ∧ t1 ≤ 60) (hs2 : 0 ≤ s2 ∧ s2 ≤ 1000000) (ht2 : 0 ≤ t2 ∧ t2 ≤ 1000000) (w : World) :
    Calls Try.prog 104 #[.agg #[.int .i64 x.1, .int .i64 x.2.1, .int .i64 x.2.2.1, .int .i64 x.2.2.2.1, .int .i64 x.2.2.2.2], .agg #[.int .i64 s1, .int .i64 s2], .agg #[.int .i64 t1, .int .i64 t2]] w fun e w' => e = .returned (.bool (decide (jamP x (s1, s2) (t1, t2)))) ∧ Below w.heap.size w w' := by
  obtain ⟨W0, hW0⟩ : ∃ W0, W0 = (((w.alloc (.cells #[.int .i64 x.1, .int .i64 x.2.1, .int .i64 x.2.2.1, .int .i64 x.2.2.2.1, .int .i64 x.2.2.2.2] 32)).alloc (.cells #[.int .i64 s1, .int .i64 s2] 103)).alloc (.cells #[.int .i64 t1, .int .i64 t2] 103)) := ⟨_, rfl⟩
  have hB0 : Below w.heap.size w W0 := by rw [hW0]; exact bal (bal (bal (Below.refl _ _) _) _) _
  have k0 : AtBasket W0 w.heap.size x := by rw [hW0]; refine ⟨?_, ?_, ?_, ?_, ?_, ?_⟩ <;> simp [go_sem] <;> try omega
  have ks : AtStroke W0 (w.heap.size + 1) (s1, s2) := by rw [hW0]; refine ⟨?_, ?_, ?_⟩ <;> simp [go_sem] <;> try omega
  have kt : AtStroke W0 (w.heap.size + 2) (t1, t2) := by rw [hW0]; refine ⟨?_, ?_, ?_⟩ <;> simp [go_sem] <;> try omega
  have HW := Lib.hid hW0
  clear hW0
  have wb := waitV_bd x h s1 t1
  have z1 : IntKind.i64.wrap (s2 - t2) = s2 - t2 := IntWalk.i64_in _ (by omega)
  have q1 : -9223372036854775807 ≤ s2 - t2 := by omega
  have q2 : s2 - t2 ≤ 9223372036854775807 := by omega
  go_enter Try.func104, Try.ntmps104
  go_wp2_with fail
  rw [← HW.out]
  go_region_held3 (fun w' => (w'.cell? ⟨w.heap.size, 0, none⟩ = some (.int .i64 x.1) ∧ w'.cell? ⟨w.heap.size, 1, none⟩ = some (.int .i64 x.2.1) ∧ w'.cell? ⟨w.heap.size, 2, none⟩ = some (.int .i64 x.2.2.1) ∧ w'.cell? ⟨w.heap.size, 3, none⟩ = some (.int .i64 x.2.2.2.1) ∧ w'.cell? ⟨w.heap.size, 4, none⟩ = some (.int .i64 x.2.2.2.2)) ∧ (w'.cell? ⟨w.heap.size + 1, 0, none⟩ = some (.int .i64 s1) ∧ w'.cell? ⟨w.heap.size + 1, 1, none⟩ = some (.int .i64 s2)) ∧ (w'.cell? ⟨w.heap.size + 2, 0, none⟩ = some (.int .i64 t1) ∧ w'.cell? ⟨w.heap.size + 2, 1, none⟩ = some (.int .i64 t2))) (first | exact ⟨k0.2, ks.2, kt.2⟩) (first | (go_at_call 141; refine (absolute_any (s2 - t2) q1 q2 _).mono ?_; rintro e w2 ⟨rfl, rfl⟩) | (go_at_call 137; refine (waits_any x h s1 t1 hs1 ht1 _).mono ?_; rintro e w3 ⟨rfl, hb3⟩; (first | replace hB0 := bnext hB0 hb3 | replace hB0 := bnext hB0 (bundrew hb3)); (first | replace k0 := k0.next hb3 | replace k0 := k0.next (bundrew hb3)); (first | replace ks := ks.next hb3 | replace ks := ks.next (bundrew hb3)); (first | replace kt := kt.next hb3 | replace kt := kt.next (bundrew hb3))))
  all_goals go_wp2
  all_goals go_ret
  all_goals exact ⟨rfl, hB0⟩
end Go.Proofs.Ytbcomfobnhekpaa
