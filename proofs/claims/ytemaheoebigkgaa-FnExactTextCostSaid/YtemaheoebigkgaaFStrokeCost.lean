/-
  FStrokeCost: the cost of a stroke: spec.l07Cost, impl.strokeCost, spec.StrokeCost, impl.StrokeCost.
-/
import Derived.Test.YtemaheoebigkgaaFBoard
import Derived.Test.YtemaheoebigkgaaMore
import Derived.BigRegion
namespace Go.Proofs.Ytemaheoebigkgaa
open Go.RowKit
set_option linter.unusedVariables false
attribute [local go_sem ↓] Go.wp_at_zero Go.wp_at_succ
def costV (p q : TPlace) (i j : Nat) : Int :=
  if i = j then q.2.2 else if p.1 = q.1 then q.2.2 + 10 + 5 * ((p.2.1 - q.2.1).natAbs : Int) else if decide (p.1 ≤ 3) = decide (q.1 ≤ 3) then q.2.2 + 2 else q.2.2
theorem cost_ways (p q : TPlace) (i j : Nat) : i = j ∨ (i ≠ j ∧ p.1 = q.1) ∨ (i ≠ j ∧ p.1 ≠ q.1 ∧ (p.1 ≤ 3 ∧ q.1 ≤ 3)) ∨ (i ≠ j ∧ p.1 ≠ q.1 ∧ (¬ p.1 ≤ 3 ∧ ¬ q.1 ≤ 3)) ∨ (i ≠ j ∧ p.1 ≠ q.1 ∧ (¬ p.1 ≤ 3 ∧ q.1 ≤ 3)) ∨ (i ≠ j ∧ p.1 ≠ q.1 ∧ (p.1 ≤ 3 ∧ ¬ q.1 ≤ 3)) := by omega
instance decBoardOk (xs : List TPlace) : Decidable (BoardOk xs) := inferInstanceAs (Decidable (_ ∧ _))
def M_StrokeCost (xs : List TPlace) (a n : Int) : Int × Int :=
  if BoardOk xs then (if (0 ≤ a ∧ a ≤ (xs.length : Int) - 1) then (if (0 ≤ n ∧ n ≤ (xs.length : Int) - 1) then (costV (xs.getD a.toNat (0, 0, 0)) (xs.getD n.toNat (0, 0, 0)) a.toNat n.toNat, 0) else (0, 2)) else (0, 2)) else (0, 1)
abbrev AtPlace (w : World) (b : Nat) (x : TPlace) : Prop := b < w.heap.size ∧ w.cell? ⟨b, 0, none⟩ = some (.int .i64 x.1) ∧ w.cell? ⟨b, 1, none⟩ = some (.int .i64 x.2.1) ∧ w.cell? ⟨b, 2, none⟩ = some (.int .i64 x.2.2)
theorem AtPlace.next {w w' : World} {b : Nat} {x : TPlace} (h : AtPlace w b x) (hb : Below w.heap.size w w') : AtPlace w' b x :=
  ⟨Nat.lt_of_lt_of_le h.1 hb.size, (hb.cell (p := ⟨b, 0, none⟩) h.1).trans h.2.1, (hb.cell (p := ⟨b, 1, none⟩) h.1).trans h.2.2.1, (hb.cell (p := ⟨b, 2, none⟩) h.1).trans h.2.2.2⟩
theorem AtPlace.two (w : World) (T : TypeId) (p1 p2 p3 q1 q2 q3 : Int) :
    AtPlace (((w.alloc (.cells #[.int .i64 p1, .int .i64 p2, .int .i64 p3] T)).alloc (.cells #[.int .i64 q1, .int .i64 q2, .int .i64 q3] T)).drew) w.heap.size (p1, p2, p3) ∧
    AtPlace (((w.alloc (.cells #[.int .i64 p1, .int .i64 p2, .int .i64 p3] T)).alloc (.cells #[.int .i64 q1, .int .i64 q2, .int .i64 q3] T)).drew) (w.heap.size + 1) (q1, q2, q3) := by
  refine ⟨⟨?_, ?_, ?_, ?_⟩, ?_, ?_, ?_, ?_⟩ <;> simp [go_sem] <;> try omega
set_option maxHeartbeats 400000 in
theorem l07Left_any (f : Int) (w : World) :
    Calls Try.prog 77 #[.int .i64 f] w fun e w' => e = .returned (.bool (decide (f ≤ 3))) ∧ w = w' := by
  go_enter Try.func77, Try.ntmps77
  go_wp2
  go_ret
  exact ⟨rfl, rfl⟩
set_option maxHeartbeats 400000 in
theorem isLeft_any (f r e : Int) (w : World) :
    Calls Try.prog 81 #[.agg #[.int .i64 f, .int .i64 r, .int .i64 e]] w fun e w' => e = .returned (.bool (decide (f ≤ 3))) ∧ Below w.heap.size w w' := by
  go_enter Try.func81, Try.ntmps81
  go_wp2
  go_ret
  exact ⟨rfl, by repeat (first | exact Below.refl _ _ | (apply bal))⟩
set_option maxHeartbeats 3200000 in
theorem l07Cost_any (A : Option Addr) (c : Nat) (xs : List TPlace) (ok : BoardOk xs) (w : World) (rx : Row w A encPlace 3 xs) (i j : Nat) (hi : i < xs.length) (hj : j < xs.length) :
    Calls Try.prog 130 #[.slice A xs.length c, .int .i64 i, .int .i64 j] w fun e w' => e = .returned (.int .i64 (costV xs[i] xs[j] i j)) ∧ Below w.heap.size w w' := by
  have oa := ok.2 _ (List.getElem_mem hi)
  have ob := ok.2 _ (List.getElem_mem hj)
  obtain ⟨b, off, hA, hb, c0, c1, c2⟩ := rx.at3 (f := fun x : TPlace => .int .i64 x.1) (g := fun x : TPlace => .int .i64 x.2.1) (i := fun x : TPlace => .int .i64 x.2.2) hi
  obtain ⟨b', off', hA', hb', d0, d1, d2⟩ := rx.at3 (f := fun x : TPlace => .int .i64 x.1) (g := fun x : TPlace => .int .i64 x.2.1) (i := fun x : TPlace => .int .i64 x.2.2) hj
  rw [hA] at hA'
  simp only [Option.some.injEq, Addr.mk.injEq, and_true] at hA'
  obtain ⟨rfl, rfl⟩ := hA'
  subst hA
  have j1 : (0 : Int) ≤ (i : Int) := by omega
  have j2 : (i : Int) < (xs.length : Int) := by omega
  have j3 : (0 : Int) ≤ (j : Int) := by omega
  have j4 : (j : Int) < (xs.length : Int) := by omega
  have hpq : i = j → xs[i] = xs[j] := fun e => by subst e; rfl
  generalize xs[i] = p at *
  generalize xs[j] = q at *
  obtain ⟨p1, p2, p3⟩ := p
  obtain ⟨q1, q2, q3⟩ := q
  simp only at c0 c1 c2 d0 d1 d2
  obtain ⟨⟨oa1, oa2⟩, ⟨oa3, oa4⟩, oa5, oa6⟩ : (0 ≤ p1 ∧ p1 ≤ 7) ∧ (0 ≤ p2 ∧ p2 ≤ 3) ∧ (0 ≤ p3 ∧ p3 ≤ 50) := oa
  obtain ⟨⟨ob1, ob2⟩, ⟨ob3, ob4⟩, ob5, ob6⟩ : (0 ≤ q1 ∧ q1 ≤ 7) ∧ (0 ≤ q2 ∧ q2 ≤ 3) ∧ (0 ≤ q3 ∧ q3 ≤ 50) := ob
  rcases cost_ways (p1, p2, p3) (q1, q2, q3) i j with e | ⟨e, e1⟩ | ⟨e, e1, e2, e3⟩ | ⟨e, e1, e2, e3⟩ | ⟨e, e1, e2, e3⟩ | ⟨e, e1, e2, e3⟩
  · obtain ⟨rfl, rfl, rfl⟩ : p1 = q1 ∧ p2 = q2 ∧ p3 = q3 := by simpa using hpq e
    clear hpq
    subst e
    have HV := Lib.hid (show costV (p1, p2, p3) (p1, p2, p3) i i = p3 by unfold costV; rw [if_pos rfl])
    go_enter Try.func130, Try.ntmps130
    go_wp2
    go_ret
    exact ⟨ret_int HV.out.symm, (by repeat (first | exact Below.refl _ _ | (apply bal)))⟩
  · clear hpq
    simp only at e1
    subst e1
    have HV := Lib.hid (show costV (p1, p2, p3) (p1, q2, q3) i j = q3 + 10 + 5 * ((p2 - q2).natAbs : Int) by unfold costV; rw [if_neg e, if_pos rfl])
    have z1 : ((i : Int) == (j : Int)) = false := by rw [beq_eq_false_iff_ne]; omega
    have z2 : (i == j) = false := by rw [beq_eq_false_iff_ne]; omega
    go_enter Try.func130, Try.ntmps130
    go_wp2
    go_quiet ((go_at_call 114; exact quiet_left (l00Size_any (p2 - q2) (by omega) (by omega) _)))
    go_wp2
    all_goals go_ret
    all_goals exact ⟨ret_int (by rw [HV.out]; try omega), bdrewN (by repeat (first | exact Below.refl _ _ | (apply bal))) _⟩
  · clear hpq
    simp only at e1 e2 e3
    have z3 : (p1 == q1) = false := by rw [beq_eq_false_iff_ne]; exact e1
    have z4 : decide (p1 ≤ 3) = true := by simp; omega
    have z5 : decide (q1 ≤ 3) = true := by simp; omega
    have HV := Lib.hid (show costV (p1, p2, p3) (q1, q2, q3) i j = q3 + 2 by unfold costV; rw [if_neg e, if_neg e1]; simp only [z4, z5]; rfl)
    have z1 : ((i : Int) == (j : Int)) = false := by rw [beq_eq_false_iff_ne]; omega
    have z2 : (i == j) = false := by rw [beq_eq_false_iff_ne]; omega
    clear e e1
    go_enter Try.func130, Try.ntmps130
    go_wp2
    go_quiet ((first | (go_at_call_of 77 (p1); exact quiet_left (l07Left_any p1 _)) | (go_at_call_of 77 (q1); exact quiet_left (l07Left_any q1 _))))
    go_wp2
    all_goals go_ret
    all_goals exact ⟨ret_int (by rw [HV.out]; try omega), bdrewN (by repeat (first | exact Below.refl _ _ | (apply bal))) _⟩
  · clear hpq
    simp only at e1 e2 e3
    have z3 : (p1 == q1) = false := by rw [beq_eq_false_iff_ne]; exact e1
    have z4 : decide (p1 ≤ 3) = false := by simp; omega
    have z5 : decide (q1 ≤ 3) = false := by simp; omega
    have HV := Lib.hid (show costV (p1, p2, p3) (q1, q2, q3) i j = q3 + 2 by unfold costV; rw [if_neg e, if_neg e1]; simp only [z4, z5]; rfl)
    have z1 : ((i : Int) == (j : Int)) = false := by rw [beq_eq_false_iff_ne]; omega
    have z2 : (i == j) = false := by rw [beq_eq_false_iff_ne]; omega
    clear e e1
    go_enter Try.func130, Try.ntmps130
    go_wp2
    go_quiet ((first | (go_at_call_of 77 (p1); exact quiet_left (l07Left_any p1 _)) | (go_at_call_of 77 (q1); exact quiet_left (l07Left_any q1 _))))
    go_wp2
    all_goals go_ret
    all_goals exact ⟨ret_int (by rw [HV.out]; try omega), bdrewN (by repeat (first | exact Below.refl _ _ | (apply bal))) _⟩
  · clear hpq
    simp only at e1 e2 e3
    have z3 : (p1 == q1) = false := by rw [beq_eq_false_iff_ne]; exact e1
    have z4 : decide (p1 ≤ 3) = false := by simp; omega
    have z5 : decide (q1 ≤ 3) = true := by simp; omega
    have HV := Lib.hid (show costV (p1, p2, p3) (q1, q2, q3) i j = q3 by unfold costV; rw [if_neg e, if_neg e1]; simp only [z4, z5]; rfl)
    have z1 : ((i : Int) == (j : Int)) = false := by rw [beq_eq_false_iff_ne]; omega
    have z2 : (i == j) = false := by rw [beq_eq_false_iff_ne]; omega
    clear e e1
    go_enter Try.func130, Try.ntmps130
    go_wp2
    go_quiet ((first | (go_at_call_of 77 (p1); exact quiet_left (l07Left_any p1 _)) | (go_at_call_of 77 (q1); exact quiet_left (l07Left_any q1 _))))
    go_wp2
    all_goals go_ret
    all_goals exact ⟨ret_int (by rw [HV.out]; try omega), bdrewN (by repeat (first | exact Below.refl _ _ | (apply bal))) _⟩
  · clear hpq
    simp only at e1 e2 e3
    have z3 : (p1 == q1) = false := by rw [beq_eq_false_iff_ne]; exact e1
    have z4 : decide (p1 ≤ 3) = true := by simp; omega
    have z5 : decide (q1 ≤ 3) = false := by simp; omega
    have HV := Lib.hid (show costV (p1, p2, p3) (q1, q2, q3) i j = q3 by unfold costV; rw [if_neg e, if_neg e1]; simp only [z4, z5]; rfl)
    have z1 : ((i : Int) == (j : Int)) = false := by rw [beq_eq_false_iff_ne]; omega
    have z2 : (i == j) = false := by rw [beq_eq_false_iff_ne]; omega
    clear e e1
    go_enter Try.func130, Try.ntmps130
    go_wp2
    go_quiet ((first | (go_at_call_of 77 (p1); exact quiet_left (l07Left_any p1 _)) | (go_at_call_of 77 (q1); exact quiet_left (l07Left_any q1 _))))
    go_wp2
    all_goals go_ret
    all_goals exact ⟨ret_int (by rw [HV.out]; try omega), bdrewN (by repeat (first | exact Below.refl _ _ | (apply bal))) _⟩
set_option maxHeartbeats 3200000 in
theorem strokeCost_any (A : Option Addr) (c : Nat) (xs : List TPlace) (ok : BoardOk xs) (w : World) (rx : Row w A encPlace 3 xs) (i j : Nat) (hi : i < xs.length) (hj : j < xs.length) :
    Calls Try.prog 131 #[.slice A xs.length c, .int .i64 i, .int .i64 j] w fun e w' => e = .returned (.int .i64 (costV xs[i] xs[j] i j)) ∧ Below w.heap.size w w' := by
  have oa := ok.2 _ (List.getElem_mem hi)
  have ob := ok.2 _ (List.getElem_mem hj)
  obtain ⟨b, off, hA, hb, c0, c1, c2⟩ := rx.at3 (f := fun x : TPlace => .int .i64 x.1) (g := fun x : TPlace => .int .i64 x.2.1) (i := fun x : TPlace => .int .i64 x.2.2) hi
  obtain ⟨b', off', hA', hb', d0, d1, d2⟩ := rx.at3 (f := fun x : TPlace => .int .i64 x.1) (g := fun x : TPlace => .int .i64 x.2.1) (i := fun x : TPlace => .int .i64 x.2.2) hj
  rw [hA] at hA'
  simp only [Option.some.injEq, Addr.mk.injEq, and_true] at hA'
  obtain ⟨rfl, rfl⟩ := hA'
  subst hA
  have j1 : (0 : Int) ≤ (i : Int) := by omega
  have j2 : (i : Int) < (xs.length : Int) := by omega
  have j3 : (0 : Int) ≤ (j : Int) := by omega
  have j4 : (j : Int) < (xs.length : Int) := by omega
  have hpq : i = j → xs[i] = xs[j] := fun e => by subst e; rfl
  generalize xs[i] = p at *
  generalize xs[j] = q at *
  obtain ⟨p1, p2, p3⟩ := p
  obtain ⟨q1, q2, q3⟩ := q
  simp only at c0 c1 c2 d0 d1 d2
  obtain ⟨⟨oa1, oa2⟩, ⟨oa3, oa4⟩, oa5, oa6⟩ : (0 ≤ p1 ∧ p1 ≤ 7) ∧ (0 ≤ p2 ∧ p2 ≤ 3) ∧ (0 ≤ p3 ∧ p3 ≤ 50) := oa
  obtain ⟨⟨ob1, ob2⟩, ⟨ob3, ob4⟩, ob5, ob6⟩ : (0 ≤ q1 ∧ q1 ≤ 7) ∧ (0 ≤ q2 ∧ q2 ≤ 3) ∧ (0 ≤ q3 ∧ q3 ≤ 50) := ob
  rcases cost_ways (p1, p2, p3) (q1, q2, q3) i j with e | ⟨e, e1⟩ | ⟨e, e1, e2, e3⟩ | ⟨e, e1, e2, e3⟩ | ⟨e, e1, e2, e3⟩ | ⟨e, e1, e2, e3⟩
  · obtain ⟨rfl, rfl, rfl⟩ : p1 = q1 ∧ p2 = q2 ∧ p3 = q3 := by simpa using hpq e
    clear hpq
    subst e
    have HV := Lib.hid (show costV (p1, p2, p3) (p1, p2, p3) i i = p3 by unfold costV; rw [if_pos rfl])
    go_enter Try.func131, Try.ntmps131
    go_wp2
    go_region
    all_goals
      first
      | (obtain ⟨W1, hW1⟩ : ∃ W1, W1 = ((w.alloc (.cells #[.int .i64 p1, .int .i64 p2, .int .i64 p3] 98)).alloc (.cells #[.int .i64 p1, .int .i64 p2, .int .i64 p3] 98)).drew := ⟨_, rfl⟩; have hB : Below w.heap.size w W1 := by rw [hW1]; exact bdr (bal (bal (Below.refl _ _) _) _)
         obtain ⟨kp, kq⟩ := AtPlace.two w 98 p1 p2 p3 p1 p2 p3
         rw [← hW1] at kp kq ⊢
         clear hW1)
      | (obtain ⟨W1, hW1⟩ : ∃ W1, W1 = ((w.alloc (.cells #[.int .i64 p1, .int .i64 p2, .int .i64 p3] 98)).alloc (.cells #[.int .i64 p1, .int .i64 p2, .int .i64 p3] 98)).drew := ⟨_, rfl⟩; have hB : Below w.heap.size w W1 := by rw [hW1]; exact bdr (bal (bal (Below.refl _ _) _) _)
         obtain ⟨kq, kp⟩ := AtPlace.two w 98 p1 p2 p3 p1 p2 p3
         rw [← hW1] at kq kp ⊢
         clear hW1)
    all_goals go_wp2
    all_goals go_ret
    all_goals exact ⟨ret_int HV.out.symm, hB⟩
  · clear hpq
    simp only at e1
    subst e1
    have HV := Lib.hid (show costV (p1, p2, p3) (p1, q2, q3) i j = q3 + 10 + 5 * ((p2 - q2).natAbs : Int) by unfold costV; rw [if_neg e, if_pos rfl])
    have z1 : ((i : Int) == (j : Int)) = false := by rw [beq_eq_false_iff_ne]; omega
    have z2 : (i == j) = false := by rw [beq_eq_false_iff_ne]; omega
    go_enter Try.func131, Try.ntmps131
    go_wp2
    go_region
    all_goals
      first
      | (obtain ⟨W1, hW1⟩ : ∃ W1, W1 = ((w.alloc (.cells #[.int .i64 p1, .int .i64 p2, .int .i64 p3] 98)).alloc (.cells #[.int .i64 p1, .int .i64 q2, .int .i64 q3] 98)).drew := ⟨_, rfl⟩; have hB : Below w.heap.size w W1 := by rw [hW1]; exact bdr (bal (bal (Below.refl _ _) _) _)
         obtain ⟨kp, kq⟩ := AtPlace.two w 98 p1 p2 p3 p1 q2 q3
         rw [← hW1] at kp kq ⊢
         clear hW1)
      | (obtain ⟨W1, hW1⟩ : ∃ W1, W1 = ((w.alloc (.cells #[.int .i64 p1, .int .i64 q2, .int .i64 q3] 98)).alloc (.cells #[.int .i64 p1, .int .i64 p2, .int .i64 p3] 98)).drew := ⟨_, rfl⟩; have hB : Below w.heap.size w W1 := by rw [hW1]; exact bdr (bal (bal (Below.refl _ _) _) _)
         obtain ⟨kq, kp⟩ := AtPlace.two w 98 p1 q2 q3 p1 p2 p3
         rw [← hW1] at kq kp ⊢
         clear hW1)
    all_goals go_wp2
    all_goals go_quiet ((go_at_call 115; exact quiet_left (absolute_any (p2 - q2) (by omega) (by omega) _)))
    all_goals go_wp2
    all_goals go_ret
    all_goals exact ⟨ret_int (by rw [HV.out]; try omega), bdrewN hB _⟩
  · clear hpq
    simp only at e1 e2 e3
    have z3 : (p1 == q1) = false := by rw [beq_eq_false_iff_ne]; exact e1
    have z4 : decide (p1 ≤ 3) = true := by simp; omega
    have z5 : decide (q1 ≤ 3) = true := by simp; omega
    have HV := Lib.hid (show costV (p1, p2, p3) (q1, q2, q3) i j = q3 + 2 by unfold costV; rw [if_neg e, if_neg e1]; simp only [z4, z5]; rfl)
    have z1 : ((i : Int) == (j : Int)) = false := by rw [beq_eq_false_iff_ne]; omega
    have z2 : (i == j) = false := by rw [beq_eq_false_iff_ne]; omega
    clear e e1
    go_enter Try.func131, Try.ntmps131
    go_wp2
    go_region
    all_goals
      first
      | (obtain ⟨W1, hW1⟩ : ∃ W1, W1 = ((w.alloc (.cells #[.int .i64 p1, .int .i64 p2, .int .i64 p3] 98)).alloc (.cells #[.int .i64 q1, .int .i64 q2, .int .i64 q3] 98)).drew := ⟨_, rfl⟩; have hB : Below w.heap.size w W1 := by rw [hW1]; exact bdr (bal (bal (Below.refl _ _) _) _)
         obtain ⟨kp, kq⟩ := AtPlace.two w 98 p1 p2 p3 q1 q2 q3
         rw [← hW1] at kp kq ⊢
         clear hW1)
      | (obtain ⟨W1, hW1⟩ : ∃ W1, W1 = ((w.alloc (.cells #[.int .i64 q1, .int .i64 q2, .int .i64 q3] 98)).alloc (.cells #[.int .i64 p1, .int .i64 p2, .int .i64 p3] 98)).drew := ⟨_, rfl⟩; have hB : Below w.heap.size w W1 := by rw [hW1]; exact bdr (bal (bal (Below.refl _ _) _) _)
         obtain ⟨kq, kp⟩ := AtPlace.two w 98 q1 q2 q3 p1 p2 p3
         rw [← hW1] at kq kp ⊢
         clear hW1)
    all_goals go_wp2
    all_goals
      first
      | go_region_held3 (fun w' => (w'.cell? ⟨w.heap.size, 0, none⟩ = some (.int .i64 p1) ∧ w'.cell? ⟨w.heap.size, 1, none⟩ = some (.int .i64 p2) ∧ w'.cell? ⟨w.heap.size, 2, none⟩ = some (.int .i64 p3)) ∧ (w'.cell? ⟨w.heap.size + 1, 0, none⟩ = some (.int .i64 q1) ∧ w'.cell? ⟨w.heap.size + 1, 1, none⟩ = some (.int .i64 q2) ∧ w'.cell? ⟨w.heap.size + 1, 2, none⟩ = some (.int .i64 q3))) (first | exact ⟨kp.2, kq.2⟩) (first | (go_at_call_of 81 (p1); refine (isLeft_any p1 p2 p3 _).mono ?_; rintro e w3 ⟨rfl, hb3⟩; (first | replace hB := bnext hB hb3 | replace hB := bnext hB (bundrew hb3)); (first | replace kp := kp.next hb3 | replace kp := kp.next (bundrew hb3)); (first | replace kq := kq.next hb3 | replace kq := kq.next (bundrew hb3))) | (go_at_call_of 81 (q1); refine (isLeft_any q1 q2 q3 _).mono ?_; rintro e w3 ⟨rfl, hb3⟩; (first | replace hB := bnext hB hb3 | replace hB := bnext hB (bundrew hb3)); (first | replace kp := kp.next hb3 | replace kp := kp.next (bundrew hb3)); (first | replace kq := kq.next hb3 | replace kq := kq.next (bundrew hb3))))
      | go_region_held3 (fun w' => (w'.cell? ⟨w.heap.size + 1, 0, none⟩ = some (.int .i64 p1) ∧ w'.cell? ⟨w.heap.size + 1, 1, none⟩ = some (.int .i64 p2) ∧ w'.cell? ⟨w.heap.size + 1, 2, none⟩ = some (.int .i64 p3)) ∧ (w'.cell? ⟨w.heap.size, 0, none⟩ = some (.int .i64 q1) ∧ w'.cell? ⟨w.heap.size, 1, none⟩ = some (.int .i64 q2) ∧ w'.cell? ⟨w.heap.size, 2, none⟩ = some (.int .i64 q3))) (first | exact ⟨kp.2, kq.2⟩) (first | (go_at_call_of 81 (p1); refine (isLeft_any p1 p2 p3 _).mono ?_; rintro e w3 ⟨rfl, hb3⟩; (first | replace hB := bnext hB hb3 | replace hB := bnext hB (bundrew hb3)); (first | replace kp := kp.next hb3 | replace kp := kp.next (bundrew hb3)); (first | replace kq := kq.next hb3 | replace kq := kq.next (bundrew hb3))) | (go_at_call_of 81 (q1); refine (isLeft_any q1 q2 q3 _).mono ?_; rintro e w3 ⟨rfl, hb3⟩; (first | replace hB := bnext hB hb3 | replace hB := bnext hB (bundrew hb3)); (first | replace kp := kp.next hb3 | replace kp := kp.next (bundrew hb3)); (first | replace kq := kq.next hb3 | replace kq := kq.next (bundrew hb3))))
    all_goals go_wp2
    all_goals go_ret
    all_goals exact ⟨ret_int (by rw [HV.out]; try omega), hB⟩
  · clear hpq
    simp only at e1 e2 e3
    have z3 : (p1 == q1) = false := by rw [beq_eq_false_iff_ne]; exact e1
    have z4 : decide (p1 ≤ 3) = false := by simp; omega
    have z5 : decide (q1 ≤ 3) = false := by simp; omega
    have HV := Lib.hid (show costV (p1, p2, p3) (q1, q2, q3) i j = q3 + 2 by unfold costV; rw [if_neg e, if_neg e1]; simp only [z4, z5]; rfl)
    have z1 : ((i : Int) == (j : Int)) = false := by rw [beq_eq_false_iff_ne]; omega
    have z2 : (i == j) = false := by rw [beq_eq_false_iff_ne]; omega
    clear e e1
    go_enter Try.func131, Try.ntmps131
    go_wp2
    go_region
    all_goals
      first
      | (obtain ⟨W1, hW1⟩ : ∃ W1, W1 = ((w.alloc (.cells #[.int .i64 p1, .int .i64 p2, .int .i64 p3] 98)).alloc (.cells #[.int .i64 q1, .int .i64 q2, .int .i64 q3] 98)).drew := ⟨_, rfl⟩; have hB : Below w.heap.size w W1 := by rw [hW1]; exact bdr (bal (bal (Below.refl _ _) _) _)
         obtain ⟨kp, kq⟩ := AtPlace.two w 98 p1 p2 p3 q1 q2 q3
         rw [← hW1] at kp kq ⊢
         clear hW1)
      | (obtain ⟨W1, hW1⟩ : ∃ W1, W1 = ((w.alloc (.cells #[.int .i64 q1, .int .i64 q2, .int .i64 q3] 98)).alloc (.cells #[.int .i64 p1, .int .i64 p2, .int .i64 p3] 98)).drew := ⟨_, rfl⟩; have hB : Below w.heap.size w W1 := by rw [hW1]; exact bdr (bal (bal (Below.refl _ _) _) _)
         obtain ⟨kq, kp⟩ := AtPlace.two w 98 q1 q2 q3 p1 p2 p3
         rw [← hW1] at kq kp ⊢
         clear hW1)
    all_goals go_wp2
    all_goals
      first
      | go_region_held3 (fun w' => (w'.cell? ⟨w.heap.size, 0, none⟩ = some (.int .i64 p1) ∧ w'.cell? ⟨w.heap.size, 1, none⟩ = some (.int .i64 p2) ∧ w'.cell? ⟨w.heap.size, 2, none⟩ = some (.int .i64 p3)) ∧ (w'.cell? ⟨w.heap.size + 1, 0, none⟩ = some (.int .i64 q1) ∧ w'.cell? ⟨w.heap.size + 1, 1, none⟩ = some (.int .i64 q2) ∧ w'.cell? ⟨w.heap.size + 1, 2, none⟩ = some (.int .i64 q3))) (first | exact ⟨kp.2, kq.2⟩) (first | (go_at_call_of 81 (p1); refine (isLeft_any p1 p2 p3 _).mono ?_; rintro e w3 ⟨rfl, hb3⟩; (first | replace hB := bnext hB hb3 | replace hB := bnext hB (bundrew hb3)); (first | replace kp := kp.next hb3 | replace kp := kp.next (bundrew hb3)); (first | replace kq := kq.next hb3 | replace kq := kq.next (bundrew hb3))) | (go_at_call_of 81 (q1); refine (isLeft_any q1 q2 q3 _).mono ?_; rintro e w3 ⟨rfl, hb3⟩; (first | replace hB := bnext hB hb3 | replace hB := bnext hB (bundrew hb3)); (first | replace kp := kp.next hb3 | replace kp := kp.next (bundrew hb3)); (first | replace kq := kq.next hb3 | replace kq := kq.next (bundrew hb3))))
      | go_region_held3 (fun w' => (w'.cell? ⟨w.heap.size + 1, 0, none⟩ = some (.int .i64 p1) ∧ w'.cell? ⟨w.heap.size + 1, 1, none⟩ = some (.int .i64 p2) ∧ w'.cell? ⟨w.heap.size + 1, 2, none⟩ = some (.int .i64 p3)) ∧ (w'.cell? ⟨w.heap.size, 0, none⟩ = some (.int .i64 q1) ∧ w'.cell? ⟨w.heap.size, 1, none⟩ = some (.int .i64 q2) ∧ w'.cell? ⟨w.heap.size, 2, none⟩ = some (.int .i64 q3))) (first | exact ⟨kp.2, kq.2⟩) (first | (go_at_call_of 81 (p1); refine (isLeft_any p1 p2 p3 _).mono ?_; rintro e w3 ⟨rfl, hb3⟩; (first | replace hB := bnext hB hb3 | replace hB := bnext hB (bundrew hb3)); (first | replace kp := kp.next hb3 | replace kp := kp.next (bundrew hb3)); (first | replace kq := kq.next hb3 | replace kq := kq.next (bundrew hb3))) | (go_at_call_of 81 (q1); refine (isLeft_any q1 q2 q3 _).mono ?_; rintro e w3 ⟨rfl, hb3⟩; (first | replace hB := bnext hB hb3 | replace hB := bnext hB (bundrew hb3)); (first | replace kp := kp.next hb3 | replace kp := kp.next (bundrew hb3)); (first | replace kq := kq.next hb3 | replace kq := kq.next (bundrew hb3))))
    all_goals go_wp2
    all_goals go_ret
    all_goals exact ⟨ret_int (by rw [HV.out]; try omega), hB⟩
  · clear hpq
    simp only at e1 e2 e3
    have z3 : (p1 == q1) = false := by rw [beq_eq_false_iff_ne]; exact e1
    have z4 : decide (p1 ≤ 3) = false := by simp; omega
    have z5 : decide (q1 ≤ 3) = true := by simp; omega
    have HV := Lib.hid (show costV (p1, p2, p3) (q1, q2, q3) i j = q3 by unfold costV; rw [if_neg e, if_neg e1]; simp only [z4, z5]; rfl)
    have z1 : ((i : Int) == (j : Int)) = false := by rw [beq_eq_false_iff_ne]; omega
    have z2 : (i == j) = false := by rw [beq_eq_false_iff_ne]; omega
    clear e e1
    go_enter Try.func131, Try.ntmps131
    go_wp2
    go_region
    all_goals
      first
      | (obtain ⟨W1, hW1⟩ : ∃ W1, W1 = ((w.alloc (.cells #[.int .i64 p1, .int .i64 p2, .int .i64 p3] 98)).alloc (.cells #[.int .i64 q1, .int .i64 q2, .int .i64 q3] 98)).drew := ⟨_, rfl⟩; have hB : Below w.heap.size w W1 := by rw [hW1]; exact bdr (bal (bal (Below.refl _ _) _) _)
         obtain ⟨kp, kq⟩ := AtPlace.two w 98 p1 p2 p3 q1 q2 q3
         rw [← hW1] at kp kq ⊢
         clear hW1)
      | (obtain ⟨W1, hW1⟩ : ∃ W1, W1 = ((w.alloc (.cells #[.int .i64 q1, .int .i64 q2, .int .i64 q3] 98)).alloc (.cells #[.int .i64 p1, .int .i64 p2, .int .i64 p3] 98)).drew := ⟨_, rfl⟩; have hB : Below w.heap.size w W1 := by rw [hW1]; exact bdr (bal (bal (Below.refl _ _) _) _)
         obtain ⟨kq, kp⟩ := AtPlace.two w 98 q1 q2 q3 p1 p2 p3
         rw [← hW1] at kq kp ⊢
         clear hW1)
    all_goals go_wp2
    all_goals
      first
      | go_region_held3 (fun w' => (w'.cell? ⟨w.heap.size, 0, none⟩ = some (.int .i64 p1) ∧ w'.cell? ⟨w.heap.size, 1, none⟩ = some (.int .i64 p2) ∧ w'.cell? ⟨w.heap.size, 2, none⟩ = some (.int .i64 p3)) ∧ (w'.cell? ⟨w.heap.size + 1, 0, none⟩ = some (.int .i64 q1) ∧ w'.cell? ⟨w.heap.size + 1, 1, none⟩ = some (.int .i64 q2) ∧ w'.cell? ⟨w.heap.size + 1, 2, none⟩ = some (.int .i64 q3))) (first | exact ⟨kp.2, kq.2⟩) (first | (go_at_call_of 81 (p1); refine (isLeft_any p1 p2 p3 _).mono ?_; rintro e w3 ⟨rfl, hb3⟩; (first | replace hB := bnext hB hb3 | replace hB := bnext hB (bundrew hb3)); (first | replace kp := kp.next hb3 | replace kp := kp.next (bundrew hb3)); (first | replace kq := kq.next hb3 | replace kq := kq.next (bundrew hb3))) | (go_at_call_of 81 (q1); refine (isLeft_any q1 q2 q3 _).mono ?_; rintro e w3 ⟨rfl, hb3⟩; (first | replace hB := bnext hB hb3 | replace hB := bnext hB (bundrew hb3)); (first | replace kp := kp.next hb3 | replace kp := kp.next (bundrew hb3)); (first | replace kq := kq.next hb3 | replace kq := kq.next (bundrew hb3))))
      | go_region_held3 (fun w' => (w'.cell? ⟨w.heap.size + 1, 0, none⟩ = some (.int .i64 p1) ∧ w'.cell? ⟨w.heap.size + 1, 1, none⟩ = some (.int .i64 p2) ∧ w'.cell? ⟨w.heap.size + 1, 2, none⟩ = some (.int .i64 p3)) ∧ (w'.cell? ⟨w.heap.size, 0, none⟩ = some (.int .i64 q1) ∧ w'.cell? ⟨w.heap.size, 1, none⟩ = some (.int .i64 q2) ∧ w'.cell? ⟨w.heap.size, 2, none⟩ = some (.int .i64 q3))) (first | exact ⟨kp.2, kq.2⟩) (first | (go_at_call_of 81 (p1); refine (isLeft_any p1 p2 p3 _).mono ?_; rintro e w3 ⟨rfl, hb3⟩; (first | replace hB := bnext hB hb3 | replace hB := bnext hB (bundrew hb3)); (first | replace kp := kp.next hb3 | replace kp := kp.next (bundrew hb3)); (first | replace kq := kq.next hb3 | replace kq := kq.next (bundrew hb3))) | (go_at_call_of 81 (q1); refine (isLeft_any q1 q2 q3 _).mono ?_; rintro e w3 ⟨rfl, hb3⟩; (first | replace hB := bnext hB hb3 | replace hB := bnext hB (bundrew hb3)); (first | replace kp := kp.next hb3 | replace kp := kp.next (bundrew hb3)); (first | replace kq := kq.next hb3 | replace kq := kq.next (bundrew hb3))))
    all_goals go_wp2
    all_goals go_ret
    all_goals exact ⟨ret_int (by rw [HV.out]; try omega), hB⟩
  · clear hpq
    simp only at e1 e2 e3
    have z3 : (p1 == q1) = false := by rw [beq_eq_false_iff_ne]; exact e1
    have z4 : decide (p1 ≤ 3) = true := by simp; omega
    have z5 : decide (q1 ≤ 3) = false := by simp; omega
    have HV := Lib.hid (show costV (p1, p2, p3) (q1, q2, q3) i j = q3 by unfold costV; rw [if_neg e, if_neg e1]; simp only [z4, z5]; rfl)
    have z1 : ((i : Int) == (j : Int)) = false := by rw [beq_eq_false_iff_ne]; omega
    have z2 : (i == j) = false := by rw [beq_eq_false_iff_ne]; omega
    clear e e1
    go_enter Try.func131, Try.ntmps131
    go_wp2
    go_region
    all_goals
      first
      | (obtain ⟨W1, hW1⟩ : ∃ W1, W1 = ((w.alloc (.cells #[.int .i64 p1, .int .i64 p2, .int .i64 p3] 98)).alloc (.cells #[.int .i64 q1, .int .i64 q2, .int .i64 q3] 98)).drew := ⟨_, rfl⟩; have hB : Below w.heap.size w W1 := by rw [hW1]; exact bdr (bal (bal (Below.refl _ _) _) _)
         obtain ⟨kp, kq⟩ := AtPlace.two w 98 p1 p2 p3 q1 q2 q3
         rw [← hW1] at kp kq ⊢
         clear hW1)
      | (obtain ⟨W1, hW1⟩ : ∃ W1, W1 = ((w.alloc (.cells #[.int .i64 q1, .int .i64 q2, .int .i64 q3] 98)).alloc (.cells #[.int .i64 p1, .int .i64 p2, .int .i64 p3] 98)).drew := ⟨_, rfl⟩; have hB : Below w.heap.size w W1 := by rw [hW1]; exact bdr (bal (bal (Below.refl _ _) _) _)
         obtain ⟨kq, kp⟩ := AtPlace.two w 98 q1 q2 q3 p1 p2 p3
         rw [← hW1] at kq kp ⊢
         clear hW1)
    all_goals go_wp2
    all_goals
      first
      | go_region_held3 (fun w' => (w'.cell? ⟨w.heap.size, 0, none⟩ = some (.int .i64 p1) ∧ w'.cell? ⟨w.heap.size, 1, none⟩ = some (.int .i64 p2) ∧ w'.cell? ⟨w.heap.size, 2, none⟩ = some (.int .i64 p3)) ∧ (w'.cell? ⟨w.heap.size + 1, 0, none⟩ = some (.int .i64 q1) ∧ w'.cell? ⟨w.heap.size + 1, 1, none⟩ = some (.int .i64 q2) ∧ w'.cell? ⟨w.heap.size + 1, 2, none⟩ = some (.int .i64 q3))) (first | exact ⟨kp.2, kq.2⟩) (first | (go_at_call_of 81 (p1); refine (isLeft_any p1 p2 p3 _).mono ?_; rintro e w3 ⟨rfl, hb3⟩; (first | replace hB := bnext hB hb3 | replace hB := bnext hB (bundrew hb3)); (first | replace kp := kp.next hb3 | replace kp := kp.next (bundrew hb3)); (first | replace kq := kq.next hb3 | replace kq := kq.next (bundrew hb3))) | (go_at_call_of 81 (q1); refine (isLeft_any q1 q2 q3 _).mono ?_; rintro e w3 ⟨rfl, hb3⟩; (first | replace hB := bnext hB hb3 | replace hB := bnext hB (bundrew hb3)); (first | replace kp := kp.next hb3 | replace kp := kp.next (bundrew hb3)); (first | replace kq := kq.next hb3 | replace kq := kq.next (bundrew hb3))))
      | go_region_held3 (fun w' => (w'.cell? ⟨w.heap.size + 1, 0, none⟩ = some (.int .i64 p1) ∧ w'.cell? ⟨w.heap.size + 1, 1, none⟩ = some (.int .i64 p2) ∧ w'.cell? ⟨w.heap.size + 1, 2, none⟩ = some (.int .i64 p3)) ∧ (w'.cell? ⟨w.heap.size, 0, none⟩ = some (.int .i64 q1) ∧ w'.cell? ⟨w.heap.size, 1, none⟩ = some (.int .i64 q2) ∧ w'.cell? ⟨w.heap.size, 2, none⟩ = some (.int .i64 q3))) (first | exact ⟨kp.2, kq.2⟩) (first | (go_at_call_of 81 (p1); refine (isLeft_any p1 p2 p3 _).mono ?_; rintro e w3 ⟨rfl, hb3⟩; (first | replace hB := bnext hB hb3 | replace hB := bnext hB (bundrew hb3)); (first | replace kp := kp.next hb3 | replace kp := kp.next (bundrew hb3)); (first | replace kq := kq.next hb3 | replace kq := kq.next (bundrew hb3))) | (go_at_call_of 81 (q1); refine (isLeft_any q1 q2 q3 _).mono ?_; rintro e w3 ⟨rfl, hb3⟩; (first | replace hB := bnext hB hb3 | replace hB := bnext hB (bundrew hb3)); (first | replace kp := kp.next hb3 | replace kp := kp.next (bundrew hb3)); (first | replace kq := kq.next hb3 | replace kq := kq.next (bundrew hb3))))
    all_goals go_wp2
    all_goals go_ret
    all_goals exact ⟨ret_int (by rw [HV.out]; try omega), hB⟩
end Go.Proofs.Ytemaheoebigkgaa
