/-
  FRunS: what a typist's acts do: spec.l04Step, act.
-/
import Derived.Test.YteepcnfpdmmnhaaFRunM
import Derived.Test.YteepcnfpdmmnhaaBlks
import Derived.Test.YteepcnfpdmmnhaaTStruck
import Derived.Deep.QuietTactic
import Derived.BigQuiet
import Derived.Deep.RegionHeld3
import Derived.Test.YteepcnfpdmmnhaaAppReg
namespace Go.Proofs.Yteepcnfpdmmnhaa
open Go.RowKit
set_option linter.unusedVariables false
attribute [local go_sem ↓] Go.wp_at_zero Go.wp_at_succ
set_option linter.unusedSimpArgs false
set_option maxHeartbeats 1600000 in
theorem l04Step_any (k : Int) (h : k = 0 ∨ k = 1 ∨ k = 2 ∨ k = 3 ∨ k = 4 ∨ k = 5) (w : World) :
    Calls Try.prog 162 #[.int .i64 k] w fun e w' => e = .returned (.int .i64 (stepW k)) ∧ w = w' := by
  rcases h with rfl | rfl | rfl | rfl | rfl | rfl
  all_goals
    go_enter Try.func162, Try.ntmps162
    go_wp2
    go_ret
    exact ⟨by simp [stepW], rfl⟩
/-- Kinds that move without a letter. -/
theorem mv_ways (k : Int) (h : k = 1 ∨ k = 3) : (k == 0) = false ∧ (k == 2) = false ∧ (k == 4) = false ∧ (k == 5) = false ∧ 1 ≤ stepW k ∧ stepW k ≤ 2 ∧ (k = 0 ∨ k = 1 ∨ k = 2 ∨ k = 3 ∨ k = 4 ∨ k = 5) ∧ k ≠ 0 := by
  rcases h with rfl | rfl <;> simp [stepW]
set_option maxHeartbeats 3200000 in
set_option maxRecDepth 10000 in
theorem act_still2 (x : TCarriage) (hx : CarriageOk x) (b base B i : Nat) (a0 bl : Int) (fr : Bool) (ls : List TStruck) (hok : TyOk i ⟨a0, fr, bl, ls⟩) (hi : i < 200) (v : Value) (ba oa : Nat) (l : ByteArray) (w : World)
    (hm : At7 w b 141 (.int .i64 x.1) (.int .i64 x.2.1) (.int .i64 x.2.2) (.int .i64 a0) (.bool fr) (.int .i64 bl) v) (hown : Own w base 128 encStruck 2 v ls) (hap : Apart v b) (hbs : base ≤ w.heap.size) (hB1 : B ≤ b) (hB2 : B ≤ base) (hba : ba < B)
    (hc0 : w.cell? ⟨ba, oa, none⟩ = some (.int .i64 2)) (hc1 : w.cell? ⟨ba, oa + 1, none⟩ = some (.string l)) :
    Calls Try.prog 136 #[.pointer (some ⟨b, 0, none⟩), .pointer (some ⟨ba, oa, none⟩)] w fun e w' => ∃ s' v', e = .returned (.bool (tyStep x (2, l) ⟨a0, fr, bl, ls⟩).isSome) ∧ s' = (tyStep x (2, l) ⟨a0, fr, bl, ls⟩).getD ⟨a0, fr, bl, ls⟩ ∧ At7 w' b 141 (.int .i64 x.1) (.int .i64 x.2.1) (.int .i64 x.2.2) (.int .i64 s'.at_) (.bool s'.fr) (.int .i64 s'.bl) v' ∧ Own w' base 128 encStruck 2 v' s'.ls ∧ Apart v' b ∧ Below B w w' := by
  obtain ⟨i0, hi0, hz, hsz, hby⟩ := info_parts infoStruck
  have HQ := Lib.hid (show 0 ≤ x.1 ∧ x.1 ≤ 300 ∧ x.1 ≤ x.2.1 ∧ x.2.1 ≤ 300 ∧ 20 ≤ x.2.1 - x.1 ∧ x.1 ≤ x.2.2 ∧ x.2.2 ≤ x.2.1 from hx)
  obtain ⟨p1, p2, p3, p4, p5⟩ := hok
  dsimp only at p1 p2 p3 p4 p5
  obtain ⟨A2, n2, c2, rfl⟩ := own_slice hown
  have HP := Lib.hid (show (0 ≤ a0 ∧ a0 ≤ 300) ∧ (0 ≤ bl ∧ bl ≤ i) ∧ ls.length ≤ i from ⟨⟨p1, p2⟩, ⟨p3, p4⟩, p5⟩)
  have HAp := Lib.hid hap
  have Hm := Lib.hid hm
  have HO := Lib.hid hown
  have d0 := hm.cell0
  have d1 := hm.cell1
  have d2 := hm.cell2
  have d3 := hm.cell3
  have d4 := hm.cell4
  have d5 := hm.cell5
  have d6 := hm.cell6
  have f3 := hm.frozen 3
  have f4 := hm.frozen 4
  have f5 := hm.frozen 5
  have f6 := hm.frozen 6
  have hl5 : ls.length ≤ 200 := by omega
  have w2 : IntKind.i64.wrap (a0 - 2) = a0 - 2 := IntWalk.i64_in _ (by omega)
  have wz : wrap64 a0 = a0 := by unfold wrap64; omega
  have wb : IntKind.i64.wrap (bl + 1) = bl + 1 := IntWalk.i64_in _ (by omega)
  have HSW := Lib.hid (show stepW 2 = 0 by simp [stepW])
  have t0 : decide (300 < a0) = false := decide_eq_false (by omega)
  have HT := Lib.hid (show tyStep x (2, l) ⟨a0, fr, bl, ls⟩ = some ⟨max 0 (a0 - 2), fr, bl, ls⟩ from by rw [tyStep_still (by simp [stepW])]; show some (⟨max (a0 - 2) 0, fr, bl, ls⟩ : TySt) = _; rw [Int.max_comm])
  clear p1 p2 p3 p4 p5 hm hown hap
  go_enter Try.func136, Try.ntmps136
  go_wp2_with (go_at_call 162; refine (l04Step_any 2 (by simp) _).mono ?_; rintro e w9 ⟨rfl, rfl⟩; rw [HSW.out])
  go_wp2_with (go_quiet (fail))
  go_wp2_with (go_at_call 163; refine (l00Max_any 0 (a0 - 2) _).mono ?_; rintro e w9 ⟨rfl, rfl⟩)
  go_ret
  exact ⟨⟨max 0 (a0 - 2), fr, bl, ls⟩, (.slice A2 n2 c2), by rw [HT.out]; rfl, by rw [HT.out]; rfl, (Hm.out.set3 (.int .i64 (max 0 (a0 - 2)))), ((HO.out.below (bdrewN (Below.refl _ _) _)).kept (grown_cs _ b 3 (.int .i64 (max 0 (a0 - 2)))) HAp.out.or), HAp.out, ((bdrewN (Below.refl _ _) _).setCell (p := ⟨b, 3, none⟩) hB1 (.int .i64 (max 0 (a0 - 2))))⟩
set_option maxHeartbeats 3200000 in
set_option maxRecDepth 10000 in
theorem act_still4 (x : TCarriage) (hx : CarriageOk x) (b base B i : Nat) (a0 bl : Int) (fr : Bool) (ls : List TStruck) (hok : TyOk i ⟨a0, fr, bl, ls⟩) (hi : i < 200) (v : Value) (ba oa : Nat) (l : ByteArray) (w : World)
    (hm : At7 w b 141 (.int .i64 x.1) (.int .i64 x.2.1) (.int .i64 x.2.2) (.int .i64 a0) (.bool fr) (.int .i64 bl) v) (hown : Own w base 128 encStruck 2 v ls) (hap : Apart v b) (hbs : base ≤ w.heap.size) (hB1 : B ≤ b) (hB2 : B ≤ base) (hba : ba < B)
    (hc0 : w.cell? ⟨ba, oa, none⟩ = some (.int .i64 4)) (hc1 : w.cell? ⟨ba, oa + 1, none⟩ = some (.string l)) :
    Calls Try.prog 136 #[.pointer (some ⟨b, 0, none⟩), .pointer (some ⟨ba, oa, none⟩)] w fun e w' => ∃ s' v', e = .returned (.bool (tyStep x (4, l) ⟨a0, fr, bl, ls⟩).isSome) ∧ s' = (tyStep x (4, l) ⟨a0, fr, bl, ls⟩).getD ⟨a0, fr, bl, ls⟩ ∧ At7 w' b 141 (.int .i64 x.1) (.int .i64 x.2.1) (.int .i64 x.2.2) (.int .i64 s'.at_) (.bool s'.fr) (.int .i64 s'.bl) v' ∧ Own w' base 128 encStruck 2 v' s'.ls ∧ Apart v' b ∧ Below B w w' := by
  obtain ⟨i0, hi0, hz, hsz, hby⟩ := info_parts infoStruck
  have HQ := Lib.hid (show 0 ≤ x.1 ∧ x.1 ≤ 300 ∧ x.1 ≤ x.2.1 ∧ x.2.1 ≤ 300 ∧ 20 ≤ x.2.1 - x.1 ∧ x.1 ≤ x.2.2 ∧ x.2.2 ≤ x.2.1 from hx)
  obtain ⟨p1, p2, p3, p4, p5⟩ := hok
  dsimp only at p1 p2 p3 p4 p5
  obtain ⟨A2, n2, c2, rfl⟩ := own_slice hown
  have HP := Lib.hid (show (0 ≤ a0 ∧ a0 ≤ 300) ∧ (0 ≤ bl ∧ bl ≤ i) ∧ ls.length ≤ i from ⟨⟨p1, p2⟩, ⟨p3, p4⟩, p5⟩)
  have HAp := Lib.hid hap
  have Hm := Lib.hid hm
  have HO := Lib.hid hown
  have d0 := hm.cell0
  have d1 := hm.cell1
  have d2 := hm.cell2
  have d3 := hm.cell3
  have d4 := hm.cell4
  have d5 := hm.cell5
  have d6 := hm.cell6
  have f3 := hm.frozen 3
  have f4 := hm.frozen 4
  have f5 := hm.frozen 5
  have f6 := hm.frozen 6
  have hl5 : ls.length ≤ 200 := by omega
  have w2 : IntKind.i64.wrap (a0 - 2) = a0 - 2 := IntWalk.i64_in _ (by omega)
  have wz : wrap64 a0 = a0 := by unfold wrap64; omega
  have wb : IntKind.i64.wrap (bl + 1) = bl + 1 := IntWalk.i64_in _ (by omega)
  have HSW := Lib.hid (show stepW 4 = 0 by simp [stepW])
  have t0 : decide (300 < a0) = false := decide_eq_false (by omega)
  have HT := Lib.hid (show tyStep x (4, l) ⟨a0, fr, bl, ls⟩ = some ⟨a0, true, bl, ls⟩ from by rw [tyStep_still (by simp [stepW])]; rfl)
  clear p1 p2 p3 p4 p5 hm hown hap
  go_enter Try.func136, Try.ntmps136
  go_wp2_with (go_at_call 162; refine (l04Step_any 4 (by simp) _).mono ?_; rintro e w9 ⟨rfl, rfl⟩; rw [HSW.out])
  go_wp2_with (go_quiet (fail))
  go_ret
  exact ⟨⟨a0, true, bl, ls⟩, (.slice A2 n2 c2), by rw [HT.out]; rfl, by rw [HT.out]; rfl, (Hm.out.set4 (.bool true)), ((HO.out.below (bdrewN (Below.refl _ _) _)).kept (grown_cs _ b 4 (.bool true)) HAp.out.or), HAp.out, ((bdrewN (Below.refl _ _) _).setCell (p := ⟨b, 4, none⟩) hB1 (.bool true))⟩
set_option maxHeartbeats 3200000 in
set_option maxRecDepth 10000 in
theorem act_still5 (x : TCarriage) (hx : CarriageOk x) (b base B i : Nat) (a0 bl : Int) (fr : Bool) (ls : List TStruck) (hok : TyOk i ⟨a0, fr, bl, ls⟩) (hi : i < 200) (v : Value) (ba oa : Nat) (l : ByteArray) (w : World)
    (hm : At7 w b 141 (.int .i64 x.1) (.int .i64 x.2.1) (.int .i64 x.2.2) (.int .i64 a0) (.bool fr) (.int .i64 bl) v) (hown : Own w base 128 encStruck 2 v ls) (hap : Apart v b) (hbs : base ≤ w.heap.size) (hB1 : B ≤ b) (hB2 : B ≤ base) (hba : ba < B)
    (hc0 : w.cell? ⟨ba, oa, none⟩ = some (.int .i64 5)) (hc1 : w.cell? ⟨ba, oa + 1, none⟩ = some (.string l)) :
    Calls Try.prog 136 #[.pointer (some ⟨b, 0, none⟩), .pointer (some ⟨ba, oa, none⟩)] w fun e w' => ∃ s' v', e = .returned (.bool (tyStep x (5, l) ⟨a0, fr, bl, ls⟩).isSome) ∧ s' = (tyStep x (5, l) ⟨a0, fr, bl, ls⟩).getD ⟨a0, fr, bl, ls⟩ ∧ At7 w' b 141 (.int .i64 x.1) (.int .i64 x.2.1) (.int .i64 x.2.2) (.int .i64 s'.at_) (.bool s'.fr) (.int .i64 s'.bl) v' ∧ Own w' base 128 encStruck 2 v' s'.ls ∧ Apart v' b ∧ Below B w w' := by
  obtain ⟨i0, hi0, hz, hsz, hby⟩ := info_parts infoStruck
  have HQ := Lib.hid (show 0 ≤ x.1 ∧ x.1 ≤ 300 ∧ x.1 ≤ x.2.1 ∧ x.2.1 ≤ 300 ∧ 20 ≤ x.2.1 - x.1 ∧ x.1 ≤ x.2.2 ∧ x.2.2 ≤ x.2.1 from hx)
  obtain ⟨p1, p2, p3, p4, p5⟩ := hok
  dsimp only at p1 p2 p3 p4 p5
  obtain ⟨A2, n2, c2, rfl⟩ := own_slice hown
  have HP := Lib.hid (show (0 ≤ a0 ∧ a0 ≤ 300) ∧ (0 ≤ bl ∧ bl ≤ i) ∧ ls.length ≤ i from ⟨⟨p1, p2⟩, ⟨p3, p4⟩, p5⟩)
  have HAp := Lib.hid hap
  have Hm := Lib.hid hm
  have HO := Lib.hid hown
  have d0 := hm.cell0
  have d1 := hm.cell1
  have d2 := hm.cell2
  have d3 := hm.cell3
  have d4 := hm.cell4
  have d5 := hm.cell5
  have d6 := hm.cell6
  have f3 := hm.frozen 3
  have f4 := hm.frozen 4
  have f5 := hm.frozen 5
  have f6 := hm.frozen 6
  have hl5 : ls.length ≤ 200 := by omega
  have w2 : IntKind.i64.wrap (a0 - 2) = a0 - 2 := IntWalk.i64_in _ (by omega)
  have wz : wrap64 a0 = a0 := by unfold wrap64; omega
  have wb : IntKind.i64.wrap (bl + 1) = bl + 1 := IntWalk.i64_in _ (by omega)
  have HSW := Lib.hid (show stepW 5 = 0 by simp [stepW])
  have t0 : decide (300 < a0) = false := decide_eq_false (by omega)
  have HT := Lib.hid (show tyStep x (5, l) ⟨a0, fr, bl, ls⟩ = some ⟨x.1, false, bl, ls⟩ from by rw [tyStep_still (by simp [stepW])]; rfl)
  have f4b := (Hm.out.set3 (.int .i64 x.1)).frozen 4
  have d4b := (Hm.out.set3 (.int .i64 x.1)).cell4
  clear p1 p2 p3 p4 p5 hm hown hap
  go_enter Try.func136, Try.ntmps136
  go_wp2_with (go_at_call 162; refine (l04Step_any 5 (by simp) _).mono ?_; rintro e w9 ⟨rfl, rfl⟩; rw [HSW.out])
  go_wp2_with (go_quiet (fail))
  go_ret
  exact ⟨⟨x.1, false, bl, ls⟩, (.slice A2 n2 c2), by rw [HT.out]; rfl, by rw [HT.out]; rfl, ((Hm.out.set3 (.int .i64 x.1)).set4 (.bool false)), (((HO.out.below (bdrewN (Below.refl _ _) _)).kept (grown_cs _ b 3 (.int .i64 x.1)) HAp.out.or).kept (grown_cs _ b 4 (.bool false)) HAp.out.or), HAp.out, (((bdrewN (Below.refl _ _) _).setCell (p := ⟨b, 3, none⟩) hB1 (.int .i64 x.1)).setCell (p := ⟨b, 4, none⟩) hB1 (.bool false))⟩
set_option maxHeartbeats 12800000 in
set_option maxRecDepth 10000 in
theorem act_move1 (x : TCarriage) (hx : CarriageOk x) (b base B i : Nat) (a0 bl : Int) (fr : Bool) (ls : List TStruck) (hok : TyOk i ⟨a0, fr, bl, ls⟩) (hi : i < 200) (v : Value) (ba oa : Nat) (k : Int) (hk : k = 1 ∨ k = 3) (l : ByteArray) (w : World)
    (hm : At7 w b 141 (.int .i64 x.1) (.int .i64 x.2.1) (.int .i64 x.2.2) (.int .i64 a0) (.bool fr) (.int .i64 bl) v) (hown : Own w base 128 encStruck 2 v ls) (hap : Apart v b) (hbs : base ≤ w.heap.size) (hB1 : B ≤ b) (hB2 : B ≤ base) (hba : ba < B)
    (hc0 : w.cell? ⟨ba, oa, none⟩ = some (.int .i64 k)) (hc1 : w.cell? ⟨ba, oa + 1, none⟩ = some (.string l)) :
    Calls Try.prog 136 #[.pointer (some ⟨b, 0, none⟩), .pointer (some ⟨ba, oa, none⟩)] w fun e w' => ∃ s' v', e = .returned (.bool (tyStep x (k, l) ⟨a0, fr, bl, ls⟩).isSome) ∧ s' = (tyStep x (k, l) ⟨a0, fr, bl, ls⟩).getD ⟨a0, fr, bl, ls⟩ ∧ At7 w' b 141 (.int .i64 x.1) (.int .i64 x.2.1) (.int .i64 x.2.2) (.int .i64 s'.at_) (.bool s'.fr) (.int .i64 s'.bl) v' ∧ Own w' base 128 encStruck 2 v' s'.ls ∧ Apart v' b ∧ Below B w w' := by
  obtain ⟨i0, hi0, hz, hsz, hby⟩ := info_parts infoStruck
  have HQ := Lib.hid (show 0 ≤ x.1 ∧ x.1 ≤ 300 ∧ x.1 ≤ x.2.1 ∧ x.2.1 ≤ 300 ∧ 20 ≤ x.2.1 - x.1 ∧ x.1 ≤ x.2.2 ∧ x.2.2 ≤ x.2.1 from hx)
  obtain ⟨p1, p2, p3, p4, p5⟩ := hok
  dsimp only at p1 p2 p3 p4 p5
  obtain ⟨A2, n2, c2, rfl⟩ := own_slice hown
  have HP := Lib.hid (show (0 ≤ a0 ∧ a0 ≤ 300) ∧ (0 ≤ bl ∧ bl ≤ i) ∧ ls.length ≤ i from ⟨⟨p1, p2⟩, ⟨p3, p4⟩, p5⟩)
  have HAp := Lib.hid hap
  have Hm := Lib.hid hm
  have HO := Lib.hid hown
  have d0 := hm.cell0
  have d1 := hm.cell1
  have d2 := hm.cell2
  have d3 := hm.cell3
  have d4 := hm.cell4
  have d5 := hm.cell5
  have d6 := hm.cell6
  have f3 := hm.frozen 3
  have f4 := hm.frozen 4
  have f5 := hm.frozen 5
  have f6 := hm.frozen 6
  have hl5 : ls.length ≤ 200 := by omega
  have w2 : IntKind.i64.wrap (a0 - 2) = a0 - 2 := IntWalk.i64_in _ (by omega)
  have wz : wrap64 a0 = a0 := by unfold wrap64; omega
  have wb : IntKind.i64.wrap (bl + 1) = bl + 1 := IntWalk.i64_in _ (by omega)
  obtain ⟨kb0, kb2, kb4, kb5, hd1, hd2, hkk, hk0⟩ := mv_ways k hk
  obtain ⟨d, hd⟩ : ∃ d, stepW k = d := ⟨_, rfl⟩
  rw [hd] at hd1 hd2
  have HSW := Lib.hid hd
  have HKK := Lib.hid hkk
  have wa : IntKind.i64.wrap (a0 + d) = a0 + d := IntWalk.i64_in _ (by omega)
  have tz : decide (0 < d) = true := decide_eq_true (by omega)
  cases fr with
  | false =>
    rcases Classical.em (x.2.1 < a0 + d) with h1 | h1
    · have hs : tyStop x ⟨a0, false, bl, ls⟩ d := by unfold tyStop; dsimp only; exact .inl ⟨rfl, h1⟩
      have HT := Lib.hid (show tyStep x (k, l) ⟨a0, false, bl, ls⟩ = none from tyStep_stop (d := d) HSW.out (by omega) hs)
      have t1 : decide (x.2.1 < a0 + d) = true := decide_eq_true h1
      clear hs h1
      clear p1 p2 p3 p4 p5 hm hown hap hd hkk hk0 hk
      go_enter Try.func136, Try.ntmps136
      go_wp2_with (go_at_call 162; refine (l04Step_any k HKK.out _).mono ?_; rintro e w9 ⟨rfl, rfl⟩; rw [HSW.out])
      go_wp2_with (go_quiet (fail))
      go_ret
      exact ⟨⟨a0, false, bl, ls⟩, (.slice A2 n2 c2), by rw [HT.out]; rfl, by rw [HT.out]; rfl, Hm.out, HO.out.below (bdrewN (Below.refl _ _) _), HAp.out, bdrewN (Below.refl _ _) _⟩
    · have hns : ¬ tyStop x ⟨a0, false, bl, ls⟩ d := by unfold tyStop; dsimp only; have := HQ.out; omega
      have hle : a0 + d ≤ 300 := by have := HQ.out; omega
      have HLe := Lib.hid hle
      have hT := tyStep_move (c := x) (a := (k, l)) (s := (⟨a0, false, bl, ls⟩ : TySt)) (d := d) HSW.out (by omega) hns
      unfold tyMove at hT
      dsimp only at hT
      rw [if_neg (c := k = 0) hk0] at hT
      have t1 : decide (x.2.1 < a0 + d) = false := decide_eq_false h1
      have t3 : decide (300 < a0 + d) = false := decide_eq_false (by omega)
      clear hns h1 hle
      rcases ff2 (a0 < x.2.2) (x.2.2 ≤ a0 + d) with h | ⟨h, h2⟩ | ⟨h, h2⟩
      · have t4 : decide (a0 < x.2.2) = false := decide_eq_false h
        rw [if_neg (fun q => h q.1)] at hT
        have HT := Lib.hid hT
        clear hT h
        clear p1 p2 p3 p4 p5 hm hown hap hd hkk hk0 hk
        go_enter Try.func136, Try.ntmps136
        go_wp2_with (go_at_call 162; refine (l04Step_any k HKK.out _).mono ?_; rintro e w9 ⟨rfl, rfl⟩; rw [HSW.out])
        go_wp2_with (go_quiet (fail))
        go_wp2_with (go_quiet (fail))
        go_ret
        exact ⟨⟨a0 + d, false, bl, ls⟩, (.slice A2 n2 c2), by rw [HT.out]; rfl, by rw [HT.out]; rfl, (Hm.out.set3 (.int .i64 (a0 + d))), ((HO.out.below (bdrewN (Below.refl _ _) _)).kept (grown_cs _ b 3 (.int .i64 (a0 + d))) HAp.out.or), HAp.out, ((bdrewN (Below.refl _ _) _).setCell (p := ⟨b, 3, none⟩) hB1 (.int .i64 (a0 + d)))⟩
      · have t4 : decide (a0 < x.2.2) = true := decide_eq_true h
        have t5 : decide (x.2.2 ≤ a0 + d) = false := decide_eq_false h2
        rw [if_neg (fun q => h2 q.2)] at hT
        have HT := Lib.hid hT
        clear hT h h2
        clear p1 p2 p3 p4 p5 hm hown hap hd hkk hk0 hk
        go_enter Try.func136, Try.ntmps136
        go_wp2_with (go_at_call 162; refine (l04Step_any k HKK.out _).mono ?_; rintro e w9 ⟨rfl, rfl⟩; rw [HSW.out])
        go_wp2_with (go_quiet (fail))
        go_wp2_with (go_quiet (fail))
        go_ret
        exact ⟨⟨a0 + d, false, bl, ls⟩, (.slice A2 n2 c2), by rw [HT.out]; rfl, by rw [HT.out]; rfl, (Hm.out.set3 (.int .i64 (a0 + d))), ((HO.out.below (bdrewN (Below.refl _ _) _)).kept (grown_cs _ b 3 (.int .i64 (a0 + d))) HAp.out.or), HAp.out, ((bdrewN (Below.refl _ _) _).setCell (p := ⟨b, 3, none⟩) hB1 (.int .i64 (a0 + d)))⟩
      · have t4 : decide (a0 < x.2.2) = true := decide_eq_true h
        have t5 : decide (x.2.2 ≤ a0 + d) = true := decide_eq_true h2
        rw [if_pos ⟨h, h2⟩] at hT
        have HT := Lib.hid hT
        clear hT h h2
        clear p1 p2 p3 p4 p5 hm hown hap hd hkk hk0 hk
        have f3b := (Hm.out.set5 (.int .i64 (bl + 1))).frozen 3
        have d3b := (Hm.out.set5 (.int .i64 (bl + 1))).cell3
        go_enter Try.func136, Try.ntmps136
        go_wp2_with (go_at_call 162; refine (l04Step_any k HKK.out _).mono ?_; rintro e w9 ⟨rfl, rfl⟩; rw [HSW.out])
        go_wp2_with (go_quiet (fail))
        go_wp2_with (go_quiet (fail))
        go_ret
        exact ⟨⟨a0 + d, false, bl + 1, ls⟩, (.slice A2 n2 c2), by rw [HT.out]; rfl, by rw [HT.out]; rfl, ((Hm.out.set5 (.int .i64 (bl + 1))).set3 (.int .i64 (a0 + d))), (((HO.out.below (bdrewN (Below.refl _ _) _)).kept (grown_cs _ b 5 (.int .i64 (bl + 1))) HAp.out.or).kept (grown_cs _ b 3 (.int .i64 (a0 + d))) HAp.out.or), HAp.out, (((bdrewN (Below.refl _ _) _).setCell (p := ⟨b, 5, none⟩) hB1 (.int .i64 (bl + 1))).setCell (p := ⟨b, 3, none⟩) hB1 (.int .i64 (a0 + d)))⟩
  | true =>
    rcases Classical.em (x.2.1 < a0 + d) with h1 | h1
    · rcases Classical.em (300 < a0 + d) with h3 | h3
      · have hs : tyStop x ⟨a0, true, bl, ls⟩ d := by unfold tyStop; dsimp only; exact .inr h3
        have HT := Lib.hid (show tyStep x (k, l) ⟨a0, true, bl, ls⟩ = none from tyStep_stop (d := d) HSW.out (by omega) hs)
        have t1 : decide (x.2.1 < a0 + d) = true := decide_eq_true h1
        have t3 : decide (300 < a0 + d) = true := decide_eq_true h3
        clear h3
        clear hs h1
        clear p1 p2 p3 p4 p5 hm hown hap hd hkk hk0 hk
        go_enter Try.func136, Try.ntmps136
        go_wp2_with (go_at_call 162; refine (l04Step_any k HKK.out _).mono ?_; rintro e w9 ⟨rfl, rfl⟩; rw [HSW.out])
        go_wp2_with (go_quiet (fail))
        go_ret
        exact ⟨⟨a0, true, bl, ls⟩, (.slice A2 n2 c2), by rw [HT.out]; rfl, by rw [HT.out]; rfl, Hm.out, HO.out.below (bdrewN (Below.refl _ _) _), HAp.out, bdrewN (Below.refl _ _) _⟩
      · have hns : ¬ tyStop x ⟨a0, true, bl, ls⟩ d := by unfold tyStop; dsimp only; have := HQ.out; simp; omega
        have hle : a0 + d ≤ 300 := by have := HQ.out; omega
        have HLe := Lib.hid hle
        have hT := tyStep_move (c := x) (a := (k, l)) (s := (⟨a0, true, bl, ls⟩ : TySt)) (d := d) HSW.out (by omega) hns
        unfold tyMove at hT
        dsimp only at hT
        rw [if_neg (c := k = 0) hk0] at hT
        have t1 : decide (x.2.1 < a0 + d) = true := decide_eq_true h1
        have t3 : decide (300 < a0 + d) = false := decide_eq_false (by omega)
        clear hns h1 hle h3
        rcases ff2 (a0 < x.2.2) (x.2.2 ≤ a0 + d) with h | ⟨h, h2⟩ | ⟨h, h2⟩
        · have t4 : decide (a0 < x.2.2) = false := decide_eq_false h
          rw [if_neg (fun q => h q.1)] at hT
          have HT := Lib.hid hT
          clear hT h
          clear p1 p2 p3 p4 p5 hm hown hap hd hkk hk0 hk
          go_enter Try.func136, Try.ntmps136
          go_wp2_with (go_at_call 162; refine (l04Step_any k HKK.out _).mono ?_; rintro e w9 ⟨rfl, rfl⟩; rw [HSW.out])
          go_wp2_with (go_quiet (fail))
          go_wp2_with (go_quiet (fail))
          go_ret
          exact ⟨⟨a0 + d, true, bl, ls⟩, (.slice A2 n2 c2), by rw [HT.out]; rfl, by rw [HT.out]; rfl, (Hm.out.set3 (.int .i64 (a0 + d))), ((HO.out.below (bdrewN (Below.refl _ _) _)).kept (grown_cs _ b 3 (.int .i64 (a0 + d))) HAp.out.or), HAp.out, ((bdrewN (Below.refl _ _) _).setCell (p := ⟨b, 3, none⟩) hB1 (.int .i64 (a0 + d)))⟩
        · have t4 : decide (a0 < x.2.2) = true := decide_eq_true h
          have t5 : decide (x.2.2 ≤ a0 + d) = false := decide_eq_false h2
          rw [if_neg (fun q => h2 q.2)] at hT
          have HT := Lib.hid hT
          clear hT h h2
          clear p1 p2 p3 p4 p5 hm hown hap hd hkk hk0 hk
          go_enter Try.func136, Try.ntmps136
          go_wp2_with (go_at_call 162; refine (l04Step_any k HKK.out _).mono ?_; rintro e w9 ⟨rfl, rfl⟩; rw [HSW.out])
          go_wp2_with (go_quiet (fail))
          go_wp2_with (go_quiet (fail))
          go_ret
          exact ⟨⟨a0 + d, true, bl, ls⟩, (.slice A2 n2 c2), by rw [HT.out]; rfl, by rw [HT.out]; rfl, (Hm.out.set3 (.int .i64 (a0 + d))), ((HO.out.below (bdrewN (Below.refl _ _) _)).kept (grown_cs _ b 3 (.int .i64 (a0 + d))) HAp.out.or), HAp.out, ((bdrewN (Below.refl _ _) _).setCell (p := ⟨b, 3, none⟩) hB1 (.int .i64 (a0 + d)))⟩
        · have t4 : decide (a0 < x.2.2) = true := decide_eq_true h
          have t5 : decide (x.2.2 ≤ a0 + d) = true := decide_eq_true h2
          rw [if_pos ⟨h, h2⟩] at hT
          have HT := Lib.hid hT
          clear hT h h2
          clear p1 p2 p3 p4 p5 hm hown hap hd hkk hk0 hk
          have f3b := (Hm.out.set5 (.int .i64 (bl + 1))).frozen 3
          have d3b := (Hm.out.set5 (.int .i64 (bl + 1))).cell3
          go_enter Try.func136, Try.ntmps136
          go_wp2_with (go_at_call 162; refine (l04Step_any k HKK.out _).mono ?_; rintro e w9 ⟨rfl, rfl⟩; rw [HSW.out])
          go_wp2_with (go_quiet (fail))
          go_wp2_with (go_quiet (fail))
          go_ret
          exact ⟨⟨a0 + d, true, bl + 1, ls⟩, (.slice A2 n2 c2), by rw [HT.out]; rfl, by rw [HT.out]; rfl, ((Hm.out.set5 (.int .i64 (bl + 1))).set3 (.int .i64 (a0 + d))), (((HO.out.below (bdrewN (Below.refl _ _) _)).kept (grown_cs _ b 5 (.int .i64 (bl + 1))) HAp.out.or).kept (grown_cs _ b 3 (.int .i64 (a0 + d))) HAp.out.or), HAp.out, (((bdrewN (Below.refl _ _) _).setCell (p := ⟨b, 5, none⟩) hB1 (.int .i64 (bl + 1))).setCell (p := ⟨b, 3, none⟩) hB1 (.int .i64 (a0 + d)))⟩
    · have hns : ¬ tyStop x ⟨a0, true, bl, ls⟩ d := by unfold tyStop; dsimp only; have := HQ.out; simp; omega
      have hle : a0 + d ≤ 300 := by have := HQ.out; omega
      have HLe := Lib.hid hle
      have hT := tyStep_move (c := x) (a := (k, l)) (s := (⟨a0, true, bl, ls⟩ : TySt)) (d := d) HSW.out (by omega) hns
      unfold tyMove at hT
      dsimp only at hT
      rw [if_neg (c := k = 0) hk0] at hT
      have t1 : decide (x.2.1 < a0 + d) = false := decide_eq_false h1
      have t3 : decide (300 < a0 + d) = false := decide_eq_false (by omega)
      clear hns h1 hle
      rcases ff2 (a0 < x.2.2) (x.2.2 ≤ a0 + d) with h | ⟨h, h2⟩ | ⟨h, h2⟩
      · have t4 : decide (a0 < x.2.2) = false := decide_eq_false h
        rw [if_neg (fun q => h q.1)] at hT
        have HT := Lib.hid hT
        clear hT h
        clear p1 p2 p3 p4 p5 hm hown hap hd hkk hk0 hk
        go_enter Try.func136, Try.ntmps136
        go_wp2_with (go_at_call 162; refine (l04Step_any k HKK.out _).mono ?_; rintro e w9 ⟨rfl, rfl⟩; rw [HSW.out])
        go_wp2_with (go_quiet (fail))
        go_wp2_with (go_quiet (fail))
        go_ret
        exact ⟨⟨a0 + d, true, bl, ls⟩, (.slice A2 n2 c2), by rw [HT.out]; rfl, by rw [HT.out]; rfl, (Hm.out.set3 (.int .i64 (a0 + d))), ((HO.out.below (bdrewN (Below.refl _ _) _)).kept (grown_cs _ b 3 (.int .i64 (a0 + d))) HAp.out.or), HAp.out, ((bdrewN (Below.refl _ _) _).setCell (p := ⟨b, 3, none⟩) hB1 (.int .i64 (a0 + d)))⟩
      · have t4 : decide (a0 < x.2.2) = true := decide_eq_true h
        have t5 : decide (x.2.2 ≤ a0 + d) = false := decide_eq_false h2
        rw [if_neg (fun q => h2 q.2)] at hT
        have HT := Lib.hid hT
        clear hT h h2
        clear p1 p2 p3 p4 p5 hm hown hap hd hkk hk0 hk
        go_enter Try.func136, Try.ntmps136
        go_wp2_with (go_at_call 162; refine (l04Step_any k HKK.out _).mono ?_; rintro e w9 ⟨rfl, rfl⟩; rw [HSW.out])
        go_wp2_with (go_quiet (fail))
        go_wp2_with (go_quiet (fail))
        go_ret
        exact ⟨⟨a0 + d, true, bl, ls⟩, (.slice A2 n2 c2), by rw [HT.out]; rfl, by rw [HT.out]; rfl, (Hm.out.set3 (.int .i64 (a0 + d))), ((HO.out.below (bdrewN (Below.refl _ _) _)).kept (grown_cs _ b 3 (.int .i64 (a0 + d))) HAp.out.or), HAp.out, ((bdrewN (Below.refl _ _) _).setCell (p := ⟨b, 3, none⟩) hB1 (.int .i64 (a0 + d)))⟩
      · have t4 : decide (a0 < x.2.2) = true := decide_eq_true h
        have t5 : decide (x.2.2 ≤ a0 + d) = true := decide_eq_true h2
        rw [if_pos ⟨h, h2⟩] at hT
        have HT := Lib.hid hT
        clear hT h h2
        clear p1 p2 p3 p4 p5 hm hown hap hd hkk hk0 hk
        have f3b := (Hm.out.set5 (.int .i64 (bl + 1))).frozen 3
        have d3b := (Hm.out.set5 (.int .i64 (bl + 1))).cell3
        go_enter Try.func136, Try.ntmps136
        go_wp2_with (go_at_call 162; refine (l04Step_any k HKK.out _).mono ?_; rintro e w9 ⟨rfl, rfl⟩; rw [HSW.out])
        go_wp2_with (go_quiet (fail))
        go_wp2_with (go_quiet (fail))
        go_ret
        exact ⟨⟨a0 + d, true, bl + 1, ls⟩, (.slice A2 n2 c2), by rw [HT.out]; rfl, by rw [HT.out]; rfl, ((Hm.out.set5 (.int .i64 (bl + 1))).set3 (.int .i64 (a0 + d))), (((HO.out.below (bdrewN (Below.refl _ _) _)).kept (grown_cs _ b 5 (.int .i64 (bl + 1))) HAp.out.or).kept (grown_cs _ b 3 (.int .i64 (a0 + d))) HAp.out.or), HAp.out, (((bdrewN (Below.refl _ _) _).setCell (p := ⟨b, 5, none⟩) hB1 (.int .i64 (bl + 1))).setCell (p := ⟨b, 3, none⟩) hB1 (.int .i64 (a0 + d)))⟩
set_option maxHeartbeats 12800000 in
set_option maxRecDepth 10000 in
theorem act_move0 (x : TCarriage) (hx : CarriageOk x) (b base B i : Nat) (a0 bl : Int) (fr : Bool) (ls : List TStruck) (hok : TyOk i ⟨a0, fr, bl, ls⟩) (hi : i < 200) (v : Value) (ba oa : Nat) (l : ByteArray) (w : World)
    (hm : At7 w b 141 (.int .i64 x.1) (.int .i64 x.2.1) (.int .i64 x.2.2) (.int .i64 a0) (.bool fr) (.int .i64 bl) v) (hown : Own w base 128 encStruck 2 v ls) (hap : Apart v b) (hbs : base ≤ w.heap.size) (hB1 : B ≤ b) (hB2 : B ≤ base) (hba : ba < B)
    (hc0 : w.cell? ⟨ba, oa, none⟩ = some (.int .i64 0)) (hc1 : w.cell? ⟨ba, oa + 1, none⟩ = some (.string l)) :
    Calls Try.prog 136 #[.pointer (some ⟨b, 0, none⟩), .pointer (some ⟨ba, oa, none⟩)] w fun e w' => ∃ s' v', e = .returned (.bool (tyStep x (0, l) ⟨a0, fr, bl, ls⟩).isSome) ∧ s' = (tyStep x (0, l) ⟨a0, fr, bl, ls⟩).getD ⟨a0, fr, bl, ls⟩ ∧ At7 w' b 141 (.int .i64 x.1) (.int .i64 x.2.1) (.int .i64 x.2.2) (.int .i64 s'.at_) (.bool s'.fr) (.int .i64 s'.bl) v' ∧ Own w' base 128 encStruck 2 v' s'.ls ∧ Apart v' b ∧ Below B w w' := by
  obtain ⟨i0, hi0, hz, hsz, hby⟩ := info_parts infoStruck
  have HQ := Lib.hid (show 0 ≤ x.1 ∧ x.1 ≤ 300 ∧ x.1 ≤ x.2.1 ∧ x.2.1 ≤ 300 ∧ 20 ≤ x.2.1 - x.1 ∧ x.1 ≤ x.2.2 ∧ x.2.2 ≤ x.2.1 from hx)
  obtain ⟨p1, p2, p3, p4, p5⟩ := hok
  dsimp only at p1 p2 p3 p4 p5
  obtain ⟨A2, n2, c2, rfl⟩ := own_slice hown
  have HP := Lib.hid (show (0 ≤ a0 ∧ a0 ≤ 300) ∧ (0 ≤ bl ∧ bl ≤ i) ∧ ls.length ≤ i from ⟨⟨p1, p2⟩, ⟨p3, p4⟩, p5⟩)
  have HAp := Lib.hid hap
  have Hm := Lib.hid hm
  have HO := Lib.hid hown
  have d0 := hm.cell0
  have d1 := hm.cell1
  have d2 := hm.cell2
  have d3 := hm.cell3
  have d4 := hm.cell4
  have d5 := hm.cell5
  have d6 := hm.cell6
  have f3 := hm.frozen 3
  have f4 := hm.frozen 4
  have f5 := hm.frozen 5
  have f6 := hm.frozen 6
  have hl5 : ls.length ≤ 200 := by omega
  have w2 : IntKind.i64.wrap (a0 - 2) = a0 - 2 := IntWalk.i64_in _ (by omega)
  have wz : wrap64 a0 = a0 := by unfold wrap64; omega
  have wb : IntKind.i64.wrap (bl + 1) = bl + 1 := IntWalk.i64_in _ (by omega)
  have HSW := Lib.hid (show stepW 0 = 2 by simp [stepW])
  have HKK := Lib.hid (show (0 : Int) = 0 ∨ (0 : Int) = 1 ∨ (0 : Int) = 2 ∨ (0 : Int) = 3 ∨ (0 : Int) = 4 ∨ (0 : Int) = 5 by simp)
  have wa : IntKind.i64.wrap (a0 + 2) = a0 + 2 := IntWalk.i64_in _ (by omega)
  cases fr with
  | false =>
    rcases Classical.em (x.2.1 < a0 + 2) with h1 | h1
    · have hs : tyStop x ⟨a0, false, bl, ls⟩ 2 := by unfold tyStop; dsimp only; exact .inl ⟨rfl, h1⟩
      have HT := Lib.hid (show tyStep x (0, l) ⟨a0, false, bl, ls⟩ = none from tyStep_stop (d := 2) HSW.out (by decide) hs)
      have t1 : decide (x.2.1 < a0 + 2) = true := decide_eq_true h1
      clear hs h1
      clear p1 p2 p3 p4 p5 hm hown hap
      go_enter Try.func136, Try.ntmps136
      go_wp2_with (go_at_call 162; refine (l04Step_any 0 HKK.out _).mono ?_; rintro e w9 ⟨rfl, rfl⟩; rw [HSW.out])
      go_wp2_with (go_quiet (fail))
      go_ret
      exact ⟨⟨a0, false, bl, ls⟩, (.slice A2 n2 c2), by rw [HT.out]; rfl, by rw [HT.out]; rfl, Hm.out, HO.out.below (bdrewN (Below.refl _ _) _), HAp.out, bdrewN (Below.refl _ _) _⟩
    · have hns : ¬ tyStop x ⟨a0, false, bl, ls⟩ 2 := by unfold tyStop; dsimp only; have := HQ.out; omega
      have hle : a0 + 2 ≤ 300 := by have := HQ.out; omega
      have HLe := Lib.hid hle
      have hT := tyStep_move (c := x) (a := (0, l)) (s := (⟨a0, false, bl, ls⟩ : TySt)) (d := 2) HSW.out (by decide) hns
      unfold tyMove at hT
      dsimp only at hT
      rw [if_pos rfl] at hT
      have t1 : decide (x.2.1 < a0 + 2) = false := decide_eq_false h1
      have t3 : decide (300 < a0 + 2) = false := decide_eq_false (by omega)
      clear hns h1 hle
      rcases ff2 (a0 < x.2.2) (x.2.2 ≤ a0 + 2) with h | ⟨h, h2⟩ | ⟨h, h2⟩
      · have t4 : decide (a0 < x.2.2) = false := decide_eq_false h
        rw [if_neg (fun q => h q.1)] at hT
        have HT := Lib.hid hT
        clear hT h
        clear p1 p2 p3 p4 p5 hm hown hap
        go_enter Try.func136, Try.ntmps136
        go_wp2_with (go_at_call 162; refine (l04Step_any 0 HKK.out _).mono ?_; rintro e w9 ⟨rfl, rfl⟩; rw [HSW.out])
        go_wp2_with (go_quiet (fail))
        generalize hWD : World.drewN w _ = WD
        have hbW : Below w.heap.size w WD := by rw [← hWD]; exact bdrewN (Below.refl _ _) _
        have hbWB : Below B w WD := by rw [← hWD]; exact bdrewN (Below.refl _ _) _
        clear hWD
        have hbs' : base ≤ WD.heap.size := Nat.le_trans hbs hbW.size
        have Hm2 := Hm.out.below hbW
        have ow2 := ((HO.out.below hbW).below (bdr (Below.refl _ _))).below (bal (Below.refl _ _) (.cells #[.int .i64 a0, .string l] 128))
        have e1 : WD.drew.cell? ⟨ba, oa + 1, none⟩ = some (.string l) := (hbWB.cell (p := ⟨ba, oa + 1, none⟩) hba).trans hc1
        have hbs2 : base ≤ (WD.drew.alloc (.cells #[.int .i64 a0, .string l] 128)).heap.size := by rw [World.size_alloc]; exact Nat.le_succ_of_le hbs'
        have hnw : ∀ j u, ([.int .i64 a0, .string l] : List Value)[j]? = some u → (WD.drew.alloc (.cells #[.int .i64 a0, .string l] 128)).cell? ((⟨WD.heap.size, 0, none⟩ : Addr).add j) = some u := cells_two_new WD.drew (.int .i64 a0) (.string l) 128
        obtain ⟨v2, w4, hrun, hown2', hg2, _, hat2⟩ := run_append_own_at (P := Try.prog) (w := WD.drew.alloc (.cells #[.int .i64 a0, .string l] 128)) base 61 61 128 i0 _ 2 24 Try.underlying61 hi0 hz hsz hby rfl (by omega) _ _ _ ow2.2 ⟨WD.heap.size, 0, none⟩ 1 1 [.int .i64 a0, .string l] rfl hnw (by simp [Value.oneCell']) (by unfold maxLen; omega) (by omega) hbs2
        have hown2 : Own w4 base 128 encStruck 2 v2 (ls ++ [(a0, l)]) := ⟨fun _ => rfl, by rw [List.flatMap_append, List.length_append]; simpa using hown2'⟩
        clear hown2'
        obtain ⟨A5, n5, c5, rfl⟩ := own_slice hown2
        have Hma := (show At7 WD.drew b 141 (.int .i64 x.1) (.int .i64 x.2.1) (.int .i64 x.2.2) (.int .i64 a0) (.bool false) (.int .i64 bl) (.slice A2 n2 c2) from Hm2).alloc (.cells #[.int .i64 a0, .string l] 128)
        have Hm3 := Hma.grown hg2 HAp.out.ne
        have ap2 := HAp.out.next (by have := Hma.lt; exact this) hat2
        have hb7 := below_own (B := B) ow2 hg2 hB2 (Nat.le_trans hB2 hbs2)
        have hb8 : Below B w w4 := ((hbWB.drew).alloc (Nat.le_trans hB2 hbs') (.cells #[.int .i64 a0, .string l] 128)).trans hb7
        have Hm4 := Hm3.set6 (.slice A5 n5 c5)
        have x0 : WD.drew.cell? ⟨b, 6, none⟩ = some (.slice A2 n2 c2) := Hm2.cell6
        have x1 := Hma.cell6
        have x1' : (WD.alloc (.cells #[.int .i64 a0, .string l] 128)).drew.cell? ⟨b, 6, none⟩ = some (.slice A2 n2 c2) := Hma.cell6
        have x2 := Hm3.cell6
        have x3 := Hm3.frozen 6
        have y0 : WD.drew.cell? ⟨b, 3, none⟩ = some (.int .i64 a0) := Hm2.cell3
        have y1 := Hma.cell3
        have y2 := Hm3.cell3
        have y3 := Hm4.cell3
        have z1 := ((bal (Below.refl _ _) (.cells #[.int .i64 a0, .string l] 128)).cell (p := ⟨ba, oa + 1, none⟩) (by have := Hm2.lt; show ba < WD.heap.size; omega)).trans e1
        have z2 := (hb7.cell (p := ⟨ba, oa + 1, none⟩) hba).trans z1
        have z3 := ((Below.refl B w4).setCell (p := ⟨b, 6, none⟩) hB1 (.slice A5 n5 c5) |>.cell (p := ⟨ba, oa + 1, none⟩) hba).trans z2
        have m2 := Hm4.cell2
        have m5 := Hm4.cell5
        have m3f := Hm4.frozen 3
        have m5f := Hm4.frozen 5
        have m3g := (Hm4.set5 (.int .i64 (bl + 1))).frozen 3
        have m3h := (Hm4.set5 (.int .i64 (bl + 1))).cell3
        have HO2 := Lib.hid hown2
        have HAp2 := Lib.hid ap2
        have HB8 := Lib.hid hb8
        have HM3 := Lib.hid Hm3
        clear Hm2 ow2 Hma Hm3 Hm4 hown2 hb7 hb8 hg2 hat2 hnw hbW hbWB ap2
        go_wp2_with fail
        refine wp_region_held_drew (S := fun w' => w'.cell? ⟨b, 3, none⟩ = some (.int .i64 a0) ∧ w'.cell? ⟨ba, oa + 1, none⟩ = some (.string l)) (by kernel_rfl) ⟨y0, e1⟩ (fun hHeld => ?_)
        refine wpAnyH_take (i := 0) (v := ?_) rfl (by kernel_rfl) (by kernel_rfl) (by kernel_rfl) (fun _ _ _ h => h) (Or.inl ⟨by rfl, ?_⟩) (by assumption) ?_
        rotate_left
        · (intro w hSw; (try dsimp only at hSw); go_simp; try with_reducible rfl)
        try simp only [Act.put, List.getElem_toArray, List.getElem_cons_zero, List.getElem_cons_succ, List.setIfInBounds_toArray, List.set_cons_zero, List.set_cons_succ]
        refine wpAnyH_take (i := 1) (v := ?_) rfl (by kernel_rfl) (by kernel_rfl) (by kernel_rfl) (fun _ _ _ h => h) (Or.inl ⟨by rfl, ?_⟩) (by assumption) ?_
        rotate_left
        · (intro w hSw; (try dsimp only at hSw); go_simp; try with_reducible rfl)
        try simp only [Act.put, List.getElem_toArray, List.getElem_cons_zero, List.getElem_cons_succ, List.setIfInBounds_toArray, List.set_cons_zero, List.set_cons_succ]
        refine wpAnyH_take (i := 2) (v := ?_) rfl (by kernel_rfl) (by kernel_rfl) (by kernel_rfl) (fun _ _ _ h => h) (Or.inl ⟨by rfl, ?_⟩) (by assumption) ?_
        rotate_left
        · (intro w hSw; (try dsimp only at hSw); go_simp; try with_reducible rfl)
        try simp only [Act.put, List.getElem_toArray, List.getElem_cons_zero, List.getElem_cons_succ, List.setIfInBounds_toArray, List.set_cons_zero, List.set_cons_succ]
        refine wpAnyH_take (i := 3) (v := ?_) rfl (by kernel_rfl) (by kernel_rfl) (by kernel_rfl) (fun _ _ _ h => h) (Or.inl ⟨by rfl, ?_⟩) (by assumption) ?_
        rotate_left
        · (intro w hSw; (try dsimp only at hSw); go_simp; try with_reducible rfl)
        try simp only [Act.put, List.getElem_toArray, List.getElem_cons_zero, List.getElem_cons_succ, List.setIfInBounds_toArray, List.set_cons_zero, List.set_cons_succ]
        refine wpAnyH_take (i := 5) (v := ?_) rfl (by kernel_rfl) (by kernel_rfl) (by kernel_rfl) (fun _ _ _ h => h) (Or.inl ⟨by rfl, ?_⟩) (by assumption) ?_
        rotate_left
        · (intro w hSw; (try dsimp only at hSw); go_simp; try with_reducible rfl)
        try simp only [Act.put, List.getElem_toArray, List.getElem_cons_zero, List.getElem_cons_succ, List.setIfInBounds_toArray, List.set_cons_zero, List.set_cons_succ]
        refine wpAnyH_take (i := 6) (v := ?_) rfl (by kernel_rfl) (by kernel_rfl) (by kernel_rfl) (fun _ _ _ h => h) (Or.inl ⟨by rfl, ?_⟩) (by assumption) ?_
        rotate_left
        · (intro w hSw; (try dsimp only at hSw); go_simp; try with_reducible rfl)
        try simp only [Act.put, List.getElem_toArray, List.getElem_cons_zero, List.getElem_cons_succ, List.setIfInBounds_toArray, List.set_cons_zero, List.set_cons_succ]
        refine wpAnyH_take (i := 7) (v := ?_) rfl (by kernel_rfl) (by kernel_rfl) (by kernel_rfl) (fun _ _ _ h => h) (Or.inl ⟨by rfl, ?_⟩) (by assumption) ?_
        rotate_left
        · (intro w hSw; (try dsimp only at hSw); go_simp; try with_reducible rfl)
        try simp only [Act.put, List.getElem_toArray, List.getElem_cons_zero, List.getElem_cons_succ, List.setIfInBounds_toArray, List.set_cons_zero, List.set_cons_succ]
        refine wpAnyH_take (i := 8) (v := ?_) rfl (by kernel_rfl) (by kernel_rfl) (by kernel_rfl) (fun _ _ _ h => h) (Or.inl ⟨by rfl, ?_⟩) (by assumption) ?_
        rotate_left
        · (intro w hSw; (try dsimp only at hSw); go_simp; try with_reducible rfl)
        try simp only [Act.put, List.getElem_toArray, List.getElem_cons_zero, List.getElem_cons_succ, List.setIfInBounds_toArray, List.set_cons_zero, List.set_cons_succ]
        refine wpAnyH_take (i := 9) (v := ?_) rfl (by kernel_rfl) (by kernel_rfl) (by kernel_rfl) (fun _ _ _ h => h) (Or.inl ⟨by rfl, ?_⟩) (by assumption) ?_
        rotate_left
        · (intro w hSw; (try dsimp only at hSw); go_simp; try with_reducible rfl)
        try simp only [Act.put, List.getElem_toArray, List.getElem_cons_zero, List.getElem_cons_succ, List.setIfInBounds_toArray, List.set_cons_zero, List.set_cons_succ]
        refine wpAnyH_take (i := 10) (v := ?_) rfl (by kernel_rfl) (by kernel_rfl) (by kernel_rfl) (fun _ _ _ h => h) (Or.inl ⟨by rfl, ?_⟩) (by assumption) ?_
        rotate_left
        · (intro w hSw; (try dsimp only at hSw); go_simp; try with_reducible rfl)
        try simp only [Act.put, List.getElem_toArray, List.getElem_cons_zero, List.getElem_cons_succ, List.setIfInBounds_toArray, List.set_cons_zero, List.set_cons_succ]
        refine wpAnyH_take (i := 11) (v := ?_) rfl (by kernel_rfl) (by kernel_rfl) (by kernel_rfl) (fun _ _ _ h => h) (Or.inl ⟨by rfl, ?_⟩) (by assumption) ?_
        rotate_left
        · (intro w hSw; (try dsimp only at hSw); go_simp; try with_reducible rfl)
        try simp only [Act.put, List.getElem_toArray, List.getElem_cons_zero, List.getElem_cons_succ, List.setIfInBounds_toArray, List.set_cons_zero, List.set_cons_succ]
        refine wpAnyH_take (i := 12) (v := ?_) rfl (by kernel_rfl) (by kernel_rfl) (by kernel_rfl) (fun _ _ _ h => h) (Or.inl ⟨by rfl, ?_⟩) (by assumption) ?_
        rotate_left
        · (intro w hSw; (try dsimp only at hSw); go_simp; try with_reducible rfl)
        try simp only [Act.put, List.getElem_toArray, List.getElem_cons_zero, List.getElem_cons_succ, List.setIfInBounds_toArray, List.set_cons_zero, List.set_cons_succ]
        refine wpAnyH_take (i := 13) (v := ?_) rfl (by kernel_rfl) (by kernel_rfl) (by kernel_rfl) (fun _ _ _ h => h) (Or.inl ⟨by rfl, ?_⟩) (by assumption) ?_
        rotate_left
        · (intro w hSw; (try dsimp only at hSw); go_simp; try with_reducible rfl)
        try simp only [Act.put, List.getElem_toArray, List.getElem_cons_zero, List.getElem_cons_succ, List.setIfInBounds_toArray, List.set_cons_zero, List.set_cons_succ]
        refine wpAnyH_ready (rs := [4, 14]) (by kernel_rfl) (by simp) ?_
        refine AllReadyH.cons rfl (fun K hK => ?_) (AllReadyH.cons rfl (fun K hK => ?_) AllReadyH.nil)
        · go_simp
          refine hK.out _ _ ⟨y0, e1⟩ (fun hHeld => ?_)
          clear hK K
          try simp only [Act.put, List.getElem_toArray, List.getElem_cons_zero, List.getElem_cons_succ, List.setIfInBounds_toArray, List.set_cons_zero, List.set_cons_succ]
          refine wpAnyH_ready (rs := [14]) (by kernel_rfl) (by simp) ?_
          refine AllReadyH.cons rfl (fun K hK => ?_) AllReadyH.nil
          go_simp
          refine hK.out _ _ ⟨y1, z1⟩ (fun hHeld => ?_)
          clear hK K
          try simp only [Act.put, List.getElem_toArray, List.getElem_cons_zero, List.getElem_cons_succ, List.setIfInBounds_toArray, List.set_cons_zero, List.set_cons_succ]
          refine wpAnyH_ready (rs := [15]) (by kernel_rfl) (by simp) ?_
          refine AllReadyH.cons rfl (fun K hK => ?_) AllReadyH.nil
          rw [if_pos (by rfl)]
          refine append_wp _ _ _ rfl _ _ _ rfl rfl hrun ?_
          refine hK.out _ _ ⟨y2, z2⟩ (fun hHeld => ?_)
          clear hK K
          try simp only [Act.put, List.getElem_toArray, List.getElem_cons_zero, List.getElem_cons_succ, List.setIfInBounds_toArray, List.set_cons_zero, List.set_cons_succ]
          refine wpAnyH_take (i := 16) (v := ?_) rfl (by kernel_rfl) (by kernel_rfl) (by kernel_rfl) (fun _ _ _ h => h) (Or.inl ⟨by rfl, ?_⟩) (by assumption) ?_
          rotate_left
          · (intro w hSw; (try dsimp only at hSw); go_simp; try with_reducible rfl)
          try simp only [Act.put, List.getElem_toArray, List.getElem_cons_zero, List.getElem_cons_succ, List.setIfInBounds_toArray, List.set_cons_zero, List.set_cons_succ]
          refine wpAnyH_take (i := 17) (v := ?_) rfl (by kernel_rfl) (by kernel_rfl) (by kernel_rfl) (fun _ _ _ h => h) (Or.inl ⟨by rfl, ?_⟩) (by assumption) ?_
          rotate_left
          · (intro w hSw; (try dsimp only at hSw); go_simp; try with_reducible rfl)
          try simp only [Act.put, List.getElem_toArray, List.getElem_cons_zero, List.getElem_cons_succ, List.setIfInBounds_toArray, List.set_cons_zero, List.set_cons_succ]
          refine wpAnyH_ready (rs := [18]) (by kernel_rfl) (by simp) ?_
          refine AllReadyH.cons rfl (fun K hK => ?_) AllReadyH.nil
          go_simp
          refine hK.out _ _ ⟨y3, z3⟩ (fun hHeld => ?_)
          clear hK K
          try simp only [Act.put, List.getElem_toArray, List.getElem_cons_zero, List.getElem_cons_succ, List.setIfInBounds_toArray, List.set_cons_zero, List.set_cons_succ]
          refine wpAnyH_done (by kernel_rfl) ?_ _
          go_wp2_with (go_quiet (fail))
          go_wp2_with (go_quiet (fail))
          go_ret
          exact ⟨⟨a0 + 2, false, bl, ls ++ [(a0, l)]⟩, (.slice A5 n5 c5), by rw [HT.out]; rfl, by rw [HT.out]; rfl, ((HM3.out.set6 ((.slice A5 n5 c5))).set3 (.int .i64 (a0 + 2))), (((HO2.out.kept (grown_cs _ b 6 (.slice A5 n5 c5)) HAp2.out.or).below (bdrewN (Below.refl _ _) _)).kept (grown_cs _ b 3 (.int .i64 (a0 + 2))) HAp2.out.or), HAp2.out, ((bdrewN (HB8.out.setCell (p := ⟨b, 6, none⟩) hB1 ((.slice A5 n5 c5))) _).setCell (p := ⟨b, 3, none⟩) hB1 (.int .i64 (a0 + 2)))⟩
        · go_simp
          refine hK.out _ _ ⟨y1, z1⟩ (fun hHeld => ?_)
          clear hK K
          try simp only [Act.put, List.getElem_toArray, List.getElem_cons_zero, List.getElem_cons_succ, List.setIfInBounds_toArray, List.set_cons_zero, List.set_cons_succ]
          refine wpAnyH_ready (rs := [4]) (by kernel_rfl) (by simp) ?_
          refine AllReadyH.cons rfl (fun K hK => ?_) AllReadyH.nil
          go_simp
          refine hK.out _ _ ⟨y1, z1⟩ (fun hHeld => ?_)
          clear hK K
          try simp only [Act.put, List.getElem_toArray, List.getElem_cons_zero, List.getElem_cons_succ, List.setIfInBounds_toArray, List.set_cons_zero, List.set_cons_succ]
          refine wpAnyH_ready (rs := [15]) (by kernel_rfl) (by simp) ?_
          refine AllReadyH.cons rfl (fun K hK => ?_) AllReadyH.nil
          rw [if_pos (by rfl)]
          refine append_wp _ _ _ rfl _ _ _ rfl rfl hrun ?_
          refine hK.out _ _ ⟨y2, z2⟩ (fun hHeld => ?_)
          clear hK K
          try simp only [Act.put, List.getElem_toArray, List.getElem_cons_zero, List.getElem_cons_succ, List.setIfInBounds_toArray, List.set_cons_zero, List.set_cons_succ]
          refine wpAnyH_take (i := 16) (v := ?_) rfl (by kernel_rfl) (by kernel_rfl) (by kernel_rfl) (fun _ _ _ h => h) (Or.inl ⟨by rfl, ?_⟩) (by assumption) ?_
          rotate_left
          · (intro w hSw; (try dsimp only at hSw); go_simp; try with_reducible rfl)
          try simp only [Act.put, List.getElem_toArray, List.getElem_cons_zero, List.getElem_cons_succ, List.setIfInBounds_toArray, List.set_cons_zero, List.set_cons_succ]
          refine wpAnyH_take (i := 17) (v := ?_) rfl (by kernel_rfl) (by kernel_rfl) (by kernel_rfl) (fun _ _ _ h => h) (Or.inl ⟨by rfl, ?_⟩) (by assumption) ?_
          rotate_left
          · (intro w hSw; (try dsimp only at hSw); go_simp; try with_reducible rfl)
          try simp only [Act.put, List.getElem_toArray, List.getElem_cons_zero, List.getElem_cons_succ, List.setIfInBounds_toArray, List.set_cons_zero, List.set_cons_succ]
          refine wpAnyH_ready (rs := [18]) (by kernel_rfl) (by simp) ?_
          refine AllReadyH.cons rfl (fun K hK => ?_) AllReadyH.nil
          go_simp
          refine hK.out _ _ ⟨y3, z3⟩ (fun hHeld => ?_)
          clear hK K
          try simp only [Act.put, List.getElem_toArray, List.getElem_cons_zero, List.getElem_cons_succ, List.setIfInBounds_toArray, List.set_cons_zero, List.set_cons_succ]
          refine wpAnyH_done (by kernel_rfl) ?_ _
          go_wp2_with (go_quiet (fail))
          go_wp2_with (go_quiet (fail))
          go_ret
          exact ⟨⟨a0 + 2, false, bl, ls ++ [(a0, l)]⟩, (.slice A5 n5 c5), by rw [HT.out]; rfl, by rw [HT.out]; rfl, ((HM3.out.set6 ((.slice A5 n5 c5))).set3 (.int .i64 (a0 + 2))), (((HO2.out.kept (grown_cs _ b 6 (.slice A5 n5 c5)) HAp2.out.or).below (bdrewN (Below.refl _ _) _)).kept (grown_cs _ b 3 (.int .i64 (a0 + 2))) HAp2.out.or), HAp2.out, ((bdrewN (HB8.out.setCell (p := ⟨b, 6, none⟩) hB1 ((.slice A5 n5 c5))) _).setCell (p := ⟨b, 3, none⟩) hB1 (.int .i64 (a0 + 2)))⟩
      · have t4 : decide (a0 < x.2.2) = true := decide_eq_true h
        have t5 : decide (x.2.2 ≤ a0 + 2) = false := decide_eq_false h2
        rw [if_neg (fun q => h2 q.2)] at hT
        have HT := Lib.hid hT
        clear hT h h2
        clear p1 p2 p3 p4 p5 hm hown hap
        go_enter Try.func136, Try.ntmps136
        go_wp2_with (go_at_call 162; refine (l04Step_any 0 HKK.out _).mono ?_; rintro e w9 ⟨rfl, rfl⟩; rw [HSW.out])
        go_wp2_with (go_quiet (fail))
        generalize hWD : World.drewN w _ = WD
        have hbW : Below w.heap.size w WD := by rw [← hWD]; exact bdrewN (Below.refl _ _) _
        have hbWB : Below B w WD := by rw [← hWD]; exact bdrewN (Below.refl _ _) _
        clear hWD
        have hbs' : base ≤ WD.heap.size := Nat.le_trans hbs hbW.size
        have Hm2 := Hm.out.below hbW
        have ow2 := ((HO.out.below hbW).below (bdr (Below.refl _ _))).below (bal (Below.refl _ _) (.cells #[.int .i64 a0, .string l] 128))
        have e1 : WD.drew.cell? ⟨ba, oa + 1, none⟩ = some (.string l) := (hbWB.cell (p := ⟨ba, oa + 1, none⟩) hba).trans hc1
        have hbs2 : base ≤ (WD.drew.alloc (.cells #[.int .i64 a0, .string l] 128)).heap.size := by rw [World.size_alloc]; exact Nat.le_succ_of_le hbs'
        have hnw : ∀ j u, ([.int .i64 a0, .string l] : List Value)[j]? = some u → (WD.drew.alloc (.cells #[.int .i64 a0, .string l] 128)).cell? ((⟨WD.heap.size, 0, none⟩ : Addr).add j) = some u := cells_two_new WD.drew (.int .i64 a0) (.string l) 128
        obtain ⟨v2, w4, hrun, hown2', hg2, _, hat2⟩ := run_append_own_at (P := Try.prog) (w := WD.drew.alloc (.cells #[.int .i64 a0, .string l] 128)) base 61 61 128 i0 _ 2 24 Try.underlying61 hi0 hz hsz hby rfl (by omega) _ _ _ ow2.2 ⟨WD.heap.size, 0, none⟩ 1 1 [.int .i64 a0, .string l] rfl hnw (by simp [Value.oneCell']) (by unfold maxLen; omega) (by omega) hbs2
        have hown2 : Own w4 base 128 encStruck 2 v2 (ls ++ [(a0, l)]) := ⟨fun _ => rfl, by rw [List.flatMap_append, List.length_append]; simpa using hown2'⟩
        clear hown2'
        obtain ⟨A5, n5, c5, rfl⟩ := own_slice hown2
        have Hma := (show At7 WD.drew b 141 (.int .i64 x.1) (.int .i64 x.2.1) (.int .i64 x.2.2) (.int .i64 a0) (.bool false) (.int .i64 bl) (.slice A2 n2 c2) from Hm2).alloc (.cells #[.int .i64 a0, .string l] 128)
        have Hm3 := Hma.grown hg2 HAp.out.ne
        have ap2 := HAp.out.next (by have := Hma.lt; exact this) hat2
        have hb7 := below_own (B := B) ow2 hg2 hB2 (Nat.le_trans hB2 hbs2)
        have hb8 : Below B w w4 := ((hbWB.drew).alloc (Nat.le_trans hB2 hbs') (.cells #[.int .i64 a0, .string l] 128)).trans hb7
        have Hm4 := Hm3.set6 (.slice A5 n5 c5)
        have x0 : WD.drew.cell? ⟨b, 6, none⟩ = some (.slice A2 n2 c2) := Hm2.cell6
        have x1 := Hma.cell6
        have x1' : (WD.alloc (.cells #[.int .i64 a0, .string l] 128)).drew.cell? ⟨b, 6, none⟩ = some (.slice A2 n2 c2) := Hma.cell6
        have x2 := Hm3.cell6
        have x3 := Hm3.frozen 6
        have y0 : WD.drew.cell? ⟨b, 3, none⟩ = some (.int .i64 a0) := Hm2.cell3
        have y1 := Hma.cell3
        have y2 := Hm3.cell3
        have y3 := Hm4.cell3
        have z1 := ((bal (Below.refl _ _) (.cells #[.int .i64 a0, .string l] 128)).cell (p := ⟨ba, oa + 1, none⟩) (by have := Hm2.lt; show ba < WD.heap.size; omega)).trans e1
        have z2 := (hb7.cell (p := ⟨ba, oa + 1, none⟩) hba).trans z1
        have z3 := ((Below.refl B w4).setCell (p := ⟨b, 6, none⟩) hB1 (.slice A5 n5 c5) |>.cell (p := ⟨ba, oa + 1, none⟩) hba).trans z2
        have m2 := Hm4.cell2
        have m5 := Hm4.cell5
        have m3f := Hm4.frozen 3
        have m5f := Hm4.frozen 5
        have m3g := (Hm4.set5 (.int .i64 (bl + 1))).frozen 3
        have m3h := (Hm4.set5 (.int .i64 (bl + 1))).cell3
        have HO2 := Lib.hid hown2
        have HAp2 := Lib.hid ap2
        have HB8 := Lib.hid hb8
        have HM3 := Lib.hid Hm3
        clear Hm2 ow2 Hma Hm3 Hm4 hown2 hb7 hb8 hg2 hat2 hnw hbW hbWB ap2
        go_wp2_with fail
        refine wp_region_held_drew (S := fun w' => w'.cell? ⟨b, 3, none⟩ = some (.int .i64 a0) ∧ w'.cell? ⟨ba, oa + 1, none⟩ = some (.string l)) (by kernel_rfl) ⟨y0, e1⟩ (fun hHeld => ?_)
        refine wpAnyH_take (i := 0) (v := ?_) rfl (by kernel_rfl) (by kernel_rfl) (by kernel_rfl) (fun _ _ _ h => h) (Or.inl ⟨by rfl, ?_⟩) (by assumption) ?_
        rotate_left
        · (intro w hSw; (try dsimp only at hSw); go_simp; try with_reducible rfl)
        try simp only [Act.put, List.getElem_toArray, List.getElem_cons_zero, List.getElem_cons_succ, List.setIfInBounds_toArray, List.set_cons_zero, List.set_cons_succ]
        refine wpAnyH_take (i := 1) (v := ?_) rfl (by kernel_rfl) (by kernel_rfl) (by kernel_rfl) (fun _ _ _ h => h) (Or.inl ⟨by rfl, ?_⟩) (by assumption) ?_
        rotate_left
        · (intro w hSw; (try dsimp only at hSw); go_simp; try with_reducible rfl)
        try simp only [Act.put, List.getElem_toArray, List.getElem_cons_zero, List.getElem_cons_succ, List.setIfInBounds_toArray, List.set_cons_zero, List.set_cons_succ]
        refine wpAnyH_take (i := 2) (v := ?_) rfl (by kernel_rfl) (by kernel_rfl) (by kernel_rfl) (fun _ _ _ h => h) (Or.inl ⟨by rfl, ?_⟩) (by assumption) ?_
        rotate_left
        · (intro w hSw; (try dsimp only at hSw); go_simp; try with_reducible rfl)
        try simp only [Act.put, List.getElem_toArray, List.getElem_cons_zero, List.getElem_cons_succ, List.setIfInBounds_toArray, List.set_cons_zero, List.set_cons_succ]
        refine wpAnyH_take (i := 3) (v := ?_) rfl (by kernel_rfl) (by kernel_rfl) (by kernel_rfl) (fun _ _ _ h => h) (Or.inl ⟨by rfl, ?_⟩) (by assumption) ?_
        rotate_left
        · (intro w hSw; (try dsimp only at hSw); go_simp; try with_reducible rfl)
        try simp only [Act.put, List.getElem_toArray, List.getElem_cons_zero, List.getElem_cons_succ, List.setIfInBounds_toArray, List.set_cons_zero, List.set_cons_succ]
        refine wpAnyH_take (i := 5) (v := ?_) rfl (by kernel_rfl) (by kernel_rfl) (by kernel_rfl) (fun _ _ _ h => h) (Or.inl ⟨by rfl, ?_⟩) (by assumption) ?_
        rotate_left
        · (intro w hSw; (try dsimp only at hSw); go_simp; try with_reducible rfl)
        try simp only [Act.put, List.getElem_toArray, List.getElem_cons_zero, List.getElem_cons_succ, List.setIfInBounds_toArray, List.set_cons_zero, List.set_cons_succ]
        refine wpAnyH_take (i := 6) (v := ?_) rfl (by kernel_rfl) (by kernel_rfl) (by kernel_rfl) (fun _ _ _ h => h) (Or.inl ⟨by rfl, ?_⟩) (by assumption) ?_
        rotate_left
        · (intro w hSw; (try dsimp only at hSw); go_simp; try with_reducible rfl)
        try simp only [Act.put, List.getElem_toArray, List.getElem_cons_zero, List.getElem_cons_succ, List.setIfInBounds_toArray, List.set_cons_zero, List.set_cons_succ]
        refine wpAnyH_take (i := 7) (v := ?_) rfl (by kernel_rfl) (by kernel_rfl) (by kernel_rfl) (fun _ _ _ h => h) (Or.inl ⟨by rfl, ?_⟩) (by assumption) ?_
        rotate_left
        · (intro w hSw; (try dsimp only at hSw); go_simp; try with_reducible rfl)
        try simp only [Act.put, List.getElem_toArray, List.getElem_cons_zero, List.getElem_cons_succ, List.setIfInBounds_toArray, List.set_cons_zero, List.set_cons_succ]
        refine wpAnyH_take (i := 8) (v := ?_) rfl (by kernel_rfl) (by kernel_rfl) (by kernel_rfl) (fun _ _ _ h => h) (Or.inl ⟨by rfl, ?_⟩) (by assumption) ?_
        rotate_left
        · (intro w hSw; (try dsimp only at hSw); go_simp; try with_reducible rfl)
        try simp only [Act.put, List.getElem_toArray, List.getElem_cons_zero, List.getElem_cons_succ, List.setIfInBounds_toArray, List.set_cons_zero, List.set_cons_succ]
        refine wpAnyH_take (i := 9) (v := ?_) rfl (by kernel_rfl) (by kernel_rfl) (by kernel_rfl) (fun _ _ _ h => h) (Or.inl ⟨by rfl, ?_⟩) (by assumption) ?_
        rotate_left
        · (intro w hSw; (try dsimp only at hSw); go_simp; try with_reducible rfl)
        try simp only [Act.put, List.getElem_toArray, List.getElem_cons_zero, List.getElem_cons_succ, List.setIfInBounds_toArray, List.set_cons_zero, List.set_cons_succ]
        refine wpAnyH_take (i := 10) (v := ?_) rfl (by kernel_rfl) (by kernel_rfl) (by kernel_rfl) (fun _ _ _ h => h) (Or.inl ⟨by rfl, ?_⟩) (by assumption) ?_
        rotate_left
        · (intro w hSw; (try dsimp only at hSw); go_simp; try with_reducible rfl)
        try simp only [Act.put, List.getElem_toArray, List.getElem_cons_zero, List.getElem_cons_succ, List.setIfInBounds_toArray, List.set_cons_zero, List.set_cons_succ]
        refine wpAnyH_take (i := 11) (v := ?_) rfl (by kernel_rfl) (by kernel_rfl) (by kernel_rfl) (fun _ _ _ h => h) (Or.inl ⟨by rfl, ?_⟩) (by assumption) ?_
        rotate_left
        · (intro w hSw; (try dsimp only at hSw); go_simp; try with_reducible rfl)
        try simp only [Act.put, List.getElem_toArray, List.getElem_cons_zero, List.getElem_cons_succ, List.setIfInBounds_toArray, List.set_cons_zero, List.set_cons_succ]
        refine wpAnyH_take (i := 12) (v := ?_) rfl (by kernel_rfl) (by kernel_rfl) (by kernel_rfl) (fun _ _ _ h => h) (Or.inl ⟨by rfl, ?_⟩) (by assumption) ?_
        rotate_left
        · (intro w hSw; (try dsimp only at hSw); go_simp; try with_reducible rfl)
        try simp only [Act.put, List.getElem_toArray, List.getElem_cons_zero, List.getElem_cons_succ, List.setIfInBounds_toArray, List.set_cons_zero, List.set_cons_succ]
        refine wpAnyH_take (i := 13) (v := ?_) rfl (by kernel_rfl) (by kernel_rfl) (by kernel_rfl) (fun _ _ _ h => h) (Or.inl ⟨by rfl, ?_⟩) (by assumption) ?_
        rotate_left
        · (intro w hSw; (try dsimp only at hSw); go_simp; try with_reducible rfl)
        try simp only [Act.put, List.getElem_toArray, List.getElem_cons_zero, List.getElem_cons_succ, List.setIfInBounds_toArray, List.set_cons_zero, List.set_cons_succ]
        refine wpAnyH_ready (rs := [4, 14]) (by kernel_rfl) (by simp) ?_
        refine AllReadyH.cons rfl (fun K hK => ?_) (AllReadyH.cons rfl (fun K hK => ?_) AllReadyH.nil)
        · go_simp
          refine hK.out _ _ ⟨y0, e1⟩ (fun hHeld => ?_)
          clear hK K
          try simp only [Act.put, List.getElem_toArray, List.getElem_cons_zero, List.getElem_cons_succ, List.setIfInBounds_toArray, List.set_cons_zero, List.set_cons_succ]
          refine wpAnyH_ready (rs := [14]) (by kernel_rfl) (by simp) ?_
          refine AllReadyH.cons rfl (fun K hK => ?_) AllReadyH.nil
          go_simp
          refine hK.out _ _ ⟨y1, z1⟩ (fun hHeld => ?_)
          clear hK K
          try simp only [Act.put, List.getElem_toArray, List.getElem_cons_zero, List.getElem_cons_succ, List.setIfInBounds_toArray, List.set_cons_zero, List.set_cons_succ]
          refine wpAnyH_ready (rs := [15]) (by kernel_rfl) (by simp) ?_
          refine AllReadyH.cons rfl (fun K hK => ?_) AllReadyH.nil
          rw [if_pos (by rfl)]
          refine append_wp _ _ _ rfl _ _ _ rfl rfl hrun ?_
          refine hK.out _ _ ⟨y2, z2⟩ (fun hHeld => ?_)
          clear hK K
          try simp only [Act.put, List.getElem_toArray, List.getElem_cons_zero, List.getElem_cons_succ, List.setIfInBounds_toArray, List.set_cons_zero, List.set_cons_succ]
          refine wpAnyH_take (i := 16) (v := ?_) rfl (by kernel_rfl) (by kernel_rfl) (by kernel_rfl) (fun _ _ _ h => h) (Or.inl ⟨by rfl, ?_⟩) (by assumption) ?_
          rotate_left
          · (intro w hSw; (try dsimp only at hSw); go_simp; try with_reducible rfl)
          try simp only [Act.put, List.getElem_toArray, List.getElem_cons_zero, List.getElem_cons_succ, List.setIfInBounds_toArray, List.set_cons_zero, List.set_cons_succ]
          refine wpAnyH_take (i := 17) (v := ?_) rfl (by kernel_rfl) (by kernel_rfl) (by kernel_rfl) (fun _ _ _ h => h) (Or.inl ⟨by rfl, ?_⟩) (by assumption) ?_
          rotate_left
          · (intro w hSw; (try dsimp only at hSw); go_simp; try with_reducible rfl)
          try simp only [Act.put, List.getElem_toArray, List.getElem_cons_zero, List.getElem_cons_succ, List.setIfInBounds_toArray, List.set_cons_zero, List.set_cons_succ]
          refine wpAnyH_ready (rs := [18]) (by kernel_rfl) (by simp) ?_
          refine AllReadyH.cons rfl (fun K hK => ?_) AllReadyH.nil
          go_simp
          refine hK.out _ _ ⟨y3, z3⟩ (fun hHeld => ?_)
          clear hK K
          try simp only [Act.put, List.getElem_toArray, List.getElem_cons_zero, List.getElem_cons_succ, List.setIfInBounds_toArray, List.set_cons_zero, List.set_cons_succ]
          refine wpAnyH_done (by kernel_rfl) ?_ _
          go_wp2_with (go_quiet (fail))
          go_wp2_with (go_quiet (fail))
          go_ret
          exact ⟨⟨a0 + 2, false, bl, ls ++ [(a0, l)]⟩, (.slice A5 n5 c5), by rw [HT.out]; rfl, by rw [HT.out]; rfl, ((HM3.out.set6 ((.slice A5 n5 c5))).set3 (.int .i64 (a0 + 2))), (((HO2.out.kept (grown_cs _ b 6 (.slice A5 n5 c5)) HAp2.out.or).below (bdrewN (Below.refl _ _) _)).kept (grown_cs _ b 3 (.int .i64 (a0 + 2))) HAp2.out.or), HAp2.out, ((bdrewN (HB8.out.setCell (p := ⟨b, 6, none⟩) hB1 ((.slice A5 n5 c5))) _).setCell (p := ⟨b, 3, none⟩) hB1 (.int .i64 (a0 + 2)))⟩
        · go_simp
          refine hK.out _ _ ⟨y1, z1⟩ (fun hHeld => ?_)
          clear hK K
          try simp only [Act.put, List.getElem_toArray, List.getElem_cons_zero, List.getElem_cons_succ, List.setIfInBounds_toArray, List.set_cons_zero, List.set_cons_succ]
          refine wpAnyH_ready (rs := [4]) (by kernel_rfl) (by simp) ?_
          refine AllReadyH.cons rfl (fun K hK => ?_) AllReadyH.nil
          go_simp
          refine hK.out _ _ ⟨y1, z1⟩ (fun hHeld => ?_)
          clear hK K
          try simp only [Act.put, List.getElem_toArray, List.getElem_cons_zero, List.getElem_cons_succ, List.setIfInBounds_toArray, List.set_cons_zero, List.set_cons_succ]
          refine wpAnyH_ready (rs := [15]) (by kernel_rfl) (by simp) ?_
          refine AllReadyH.cons rfl (fun K hK => ?_) AllReadyH.nil
          rw [if_pos (by rfl)]
          refine append_wp _ _ _ rfl _ _ _ rfl rfl hrun ?_
          refine hK.out _ _ ⟨y2, z2⟩ (fun hHeld => ?_)
          clear hK K
          try simp only [Act.put, List.getElem_toArray, List.getElem_cons_zero, List.getElem_cons_succ, List.setIfInBounds_toArray, List.set_cons_zero, List.set_cons_succ]
          refine wpAnyH_take (i := 16) (v := ?_) rfl (by kernel_rfl) (by kernel_rfl) (by kernel_rfl) (fun _ _ _ h => h) (Or.inl ⟨by rfl, ?_⟩) (by assumption) ?_
          rotate_left
          · (intro w hSw; (try dsimp only at hSw); go_simp; try with_reducible rfl)
          try simp only [Act.put, List.getElem_toArray, List.getElem_cons_zero, List.getElem_cons_succ, List.setIfInBounds_toArray, List.set_cons_zero, List.set_cons_succ]
          refine wpAnyH_take (i := 17) (v := ?_) rfl (by kernel_rfl) (by kernel_rfl) (by kernel_rfl) (fun _ _ _ h => h) (Or.inl ⟨by rfl, ?_⟩) (by assumption) ?_
          rotate_left
          · (intro w hSw; (try dsimp only at hSw); go_simp; try with_reducible rfl)
          try simp only [Act.put, List.getElem_toArray, List.getElem_cons_zero, List.getElem_cons_succ, List.setIfInBounds_toArray, List.set_cons_zero, List.set_cons_succ]
          refine wpAnyH_ready (rs := [18]) (by kernel_rfl) (by simp) ?_
          refine AllReadyH.cons rfl (fun K hK => ?_) AllReadyH.nil
          go_simp
          refine hK.out _ _ ⟨y3, z3⟩ (fun hHeld => ?_)
          clear hK K
          try simp only [Act.put, List.getElem_toArray, List.getElem_cons_zero, List.getElem_cons_succ, List.setIfInBounds_toArray, List.set_cons_zero, List.set_cons_succ]
          refine wpAnyH_done (by kernel_rfl) ?_ _
          go_wp2_with (go_quiet (fail))
          go_wp2_with (go_quiet (fail))
          go_ret
          exact ⟨⟨a0 + 2, false, bl, ls ++ [(a0, l)]⟩, (.slice A5 n5 c5), by rw [HT.out]; rfl, by rw [HT.out]; rfl, ((HM3.out.set6 ((.slice A5 n5 c5))).set3 (.int .i64 (a0 + 2))), (((HO2.out.kept (grown_cs _ b 6 (.slice A5 n5 c5)) HAp2.out.or).below (bdrewN (Below.refl _ _) _)).kept (grown_cs _ b 3 (.int .i64 (a0 + 2))) HAp2.out.or), HAp2.out, ((bdrewN (HB8.out.setCell (p := ⟨b, 6, none⟩) hB1 ((.slice A5 n5 c5))) _).setCell (p := ⟨b, 3, none⟩) hB1 (.int .i64 (a0 + 2)))⟩
      · have t4 : decide (a0 < x.2.2) = true := decide_eq_true h
        have t5 : decide (x.2.2 ≤ a0 + 2) = true := decide_eq_true h2
        rw [if_pos ⟨h, h2⟩] at hT
        have HT := Lib.hid hT
        clear hT h h2
        clear p1 p2 p3 p4 p5 hm hown hap
        have f3b := (Hm.out.set5 (.int .i64 (bl + 1))).frozen 3
        have d3b := (Hm.out.set5 (.int .i64 (bl + 1))).cell3
        go_enter Try.func136, Try.ntmps136
        go_wp2_with (go_at_call 162; refine (l04Step_any 0 HKK.out _).mono ?_; rintro e w9 ⟨rfl, rfl⟩; rw [HSW.out])
        go_wp2_with (go_quiet (fail))
        generalize hWD : World.drewN w _ = WD
        have hbW : Below w.heap.size w WD := by rw [← hWD]; exact bdrewN (Below.refl _ _) _
        have hbWB : Below B w WD := by rw [← hWD]; exact bdrewN (Below.refl _ _) _
        clear hWD
        have hbs' : base ≤ WD.heap.size := Nat.le_trans hbs hbW.size
        have Hm2 := Hm.out.below hbW
        have ow2 := ((HO.out.below hbW).below (bdr (Below.refl _ _))).below (bal (Below.refl _ _) (.cells #[.int .i64 a0, .string l] 128))
        have e1 : WD.drew.cell? ⟨ba, oa + 1, none⟩ = some (.string l) := (hbWB.cell (p := ⟨ba, oa + 1, none⟩) hba).trans hc1
        have hbs2 : base ≤ (WD.drew.alloc (.cells #[.int .i64 a0, .string l] 128)).heap.size := by rw [World.size_alloc]; exact Nat.le_succ_of_le hbs'
        have hnw : ∀ j u, ([.int .i64 a0, .string l] : List Value)[j]? = some u → (WD.drew.alloc (.cells #[.int .i64 a0, .string l] 128)).cell? ((⟨WD.heap.size, 0, none⟩ : Addr).add j) = some u := cells_two_new WD.drew (.int .i64 a0) (.string l) 128
        obtain ⟨v2, w4, hrun, hown2', hg2, _, hat2⟩ := run_append_own_at (P := Try.prog) (w := WD.drew.alloc (.cells #[.int .i64 a0, .string l] 128)) base 61 61 128 i0 _ 2 24 Try.underlying61 hi0 hz hsz hby rfl (by omega) _ _ _ ow2.2 ⟨WD.heap.size, 0, none⟩ 1 1 [.int .i64 a0, .string l] rfl hnw (by simp [Value.oneCell']) (by unfold maxLen; omega) (by omega) hbs2
        have hown2 : Own w4 base 128 encStruck 2 v2 (ls ++ [(a0, l)]) := ⟨fun _ => rfl, by rw [List.flatMap_append, List.length_append]; simpa using hown2'⟩
        clear hown2'
        obtain ⟨A5, n5, c5, rfl⟩ := own_slice hown2
        have Hma := (show At7 WD.drew b 141 (.int .i64 x.1) (.int .i64 x.2.1) (.int .i64 x.2.2) (.int .i64 a0) (.bool false) (.int .i64 bl) (.slice A2 n2 c2) from Hm2).alloc (.cells #[.int .i64 a0, .string l] 128)
        have Hm3 := Hma.grown hg2 HAp.out.ne
        have ap2 := HAp.out.next (by have := Hma.lt; exact this) hat2
        have hb7 := below_own (B := B) ow2 hg2 hB2 (Nat.le_trans hB2 hbs2)
        have hb8 : Below B w w4 := ((hbWB.drew).alloc (Nat.le_trans hB2 hbs') (.cells #[.int .i64 a0, .string l] 128)).trans hb7
        have Hm4 := Hm3.set6 (.slice A5 n5 c5)
        have x0 : WD.drew.cell? ⟨b, 6, none⟩ = some (.slice A2 n2 c2) := Hm2.cell6
        have x1 := Hma.cell6
        have x1' : (WD.alloc (.cells #[.int .i64 a0, .string l] 128)).drew.cell? ⟨b, 6, none⟩ = some (.slice A2 n2 c2) := Hma.cell6
        have x2 := Hm3.cell6
        have x3 := Hm3.frozen 6
        have y0 : WD.drew.cell? ⟨b, 3, none⟩ = some (.int .i64 a0) := Hm2.cell3
        have y1 := Hma.cell3
        have y2 := Hm3.cell3
        have y3 := Hm4.cell3
        have z1 := ((bal (Below.refl _ _) (.cells #[.int .i64 a0, .string l] 128)).cell (p := ⟨ba, oa + 1, none⟩) (by have := Hm2.lt; show ba < WD.heap.size; omega)).trans e1
        have z2 := (hb7.cell (p := ⟨ba, oa + 1, none⟩) hba).trans z1
        have z3 := ((Below.refl B w4).setCell (p := ⟨b, 6, none⟩) hB1 (.slice A5 n5 c5) |>.cell (p := ⟨ba, oa + 1, none⟩) hba).trans z2
        have m2 := Hm4.cell2
        have m5 := Hm4.cell5
        have m3f := Hm4.frozen 3
        have m5f := Hm4.frozen 5
        have m3g := (Hm4.set5 (.int .i64 (bl + 1))).frozen 3
        have m3h := (Hm4.set5 (.int .i64 (bl + 1))).cell3
        have HO2 := Lib.hid hown2
        have HAp2 := Lib.hid ap2
        have HB8 := Lib.hid hb8
        have HM3 := Lib.hid Hm3
        clear Hm2 ow2 Hma Hm3 Hm4 hown2 hb7 hb8 hg2 hat2 hnw hbW hbWB ap2
        go_wp2_with fail
        refine wp_region_held_drew (S := fun w' => w'.cell? ⟨b, 3, none⟩ = some (.int .i64 a0) ∧ w'.cell? ⟨ba, oa + 1, none⟩ = some (.string l)) (by kernel_rfl) ⟨y0, e1⟩ (fun hHeld => ?_)
        refine wpAnyH_take (i := 0) (v := ?_) rfl (by kernel_rfl) (by kernel_rfl) (by kernel_rfl) (fun _ _ _ h => h) (Or.inl ⟨by rfl, ?_⟩) (by assumption) ?_
        rotate_left
        · (intro w hSw; (try dsimp only at hSw); go_simp; try with_reducible rfl)
        try simp only [Act.put, List.getElem_toArray, List.getElem_cons_zero, List.getElem_cons_succ, List.setIfInBounds_toArray, List.set_cons_zero, List.set_cons_succ]
        refine wpAnyH_take (i := 1) (v := ?_) rfl (by kernel_rfl) (by kernel_rfl) (by kernel_rfl) (fun _ _ _ h => h) (Or.inl ⟨by rfl, ?_⟩) (by assumption) ?_
        rotate_left
        · (intro w hSw; (try dsimp only at hSw); go_simp; try with_reducible rfl)
        try simp only [Act.put, List.getElem_toArray, List.getElem_cons_zero, List.getElem_cons_succ, List.setIfInBounds_toArray, List.set_cons_zero, List.set_cons_succ]
        refine wpAnyH_take (i := 2) (v := ?_) rfl (by kernel_rfl) (by kernel_rfl) (by kernel_rfl) (fun _ _ _ h => h) (Or.inl ⟨by rfl, ?_⟩) (by assumption) ?_
        rotate_left
        · (intro w hSw; (try dsimp only at hSw); go_simp; try with_reducible rfl)
        try simp only [Act.put, List.getElem_toArray, List.getElem_cons_zero, List.getElem_cons_succ, List.setIfInBounds_toArray, List.set_cons_zero, List.set_cons_succ]
        refine wpAnyH_take (i := 3) (v := ?_) rfl (by kernel_rfl) (by kernel_rfl) (by kernel_rfl) (fun _ _ _ h => h) (Or.inl ⟨by rfl, ?_⟩) (by assumption) ?_
        rotate_left
        · (intro w hSw; (try dsimp only at hSw); go_simp; try with_reducible rfl)
        try simp only [Act.put, List.getElem_toArray, List.getElem_cons_zero, List.getElem_cons_succ, List.setIfInBounds_toArray, List.set_cons_zero, List.set_cons_succ]
        refine wpAnyH_take (i := 5) (v := ?_) rfl (by kernel_rfl) (by kernel_rfl) (by kernel_rfl) (fun _ _ _ h => h) (Or.inl ⟨by rfl, ?_⟩) (by assumption) ?_
        rotate_left
        · (intro w hSw; (try dsimp only at hSw); go_simp; try with_reducible rfl)
        try simp only [Act.put, List.getElem_toArray, List.getElem_cons_zero, List.getElem_cons_succ, List.setIfInBounds_toArray, List.set_cons_zero, List.set_cons_succ]
        refine wpAnyH_take (i := 6) (v := ?_) rfl (by kernel_rfl) (by kernel_rfl) (by kernel_rfl) (fun _ _ _ h => h) (Or.inl ⟨by rfl, ?_⟩) (by assumption) ?_
        rotate_left
        · (intro w hSw; (try dsimp only at hSw); go_simp; try with_reducible rfl)
        try simp only [Act.put, List.getElem_toArray, List.getElem_cons_zero, List.getElem_cons_succ, List.setIfInBounds_toArray, List.set_cons_zero, List.set_cons_succ]
        refine wpAnyH_take (i := 7) (v := ?_) rfl (by kernel_rfl) (by kernel_rfl) (by kernel_rfl) (fun _ _ _ h => h) (Or.inl ⟨by rfl, ?_⟩) (by assumption) ?_
        rotate_left
        · (intro w hSw; (try dsimp only at hSw); go_simp; try with_reducible rfl)
        try simp only [Act.put, List.getElem_toArray, List.getElem_cons_zero, List.getElem_cons_succ, List.setIfInBounds_toArray, List.set_cons_zero, List.set_cons_succ]
        refine wpAnyH_take (i := 8) (v := ?_) rfl (by kernel_rfl) (by kernel_rfl) (by kernel_rfl) (fun _ _ _ h => h) (Or.inl ⟨by rfl, ?_⟩) (by assumption) ?_
        rotate_left
        · (intro w hSw; (try dsimp only at hSw); go_simp; try with_reducible rfl)
        try simp only [Act.put, List.getElem_toArray, List.getElem_cons_zero, List.getElem_cons_succ, List.setIfInBounds_toArray, List.set_cons_zero, List.set_cons_succ]
        refine wpAnyH_take (i := 9) (v := ?_) rfl (by kernel_rfl) (by kernel_rfl) (by kernel_rfl) (fun _ _ _ h => h) (Or.inl ⟨by rfl, ?_⟩) (by assumption) ?_
        rotate_left
        · (intro w hSw; (try dsimp only at hSw); go_simp; try with_reducible rfl)
        try simp only [Act.put, List.getElem_toArray, List.getElem_cons_zero, List.getElem_cons_succ, List.setIfInBounds_toArray, List.set_cons_zero, List.set_cons_succ]
        refine wpAnyH_take (i := 10) (v := ?_) rfl (by kernel_rfl) (by kernel_rfl) (by kernel_rfl) (fun _ _ _ h => h) (Or.inl ⟨by rfl, ?_⟩) (by assumption) ?_
        rotate_left
        · (intro w hSw; (try dsimp only at hSw); go_simp; try with_reducible rfl)
        try simp only [Act.put, List.getElem_toArray, List.getElem_cons_zero, List.getElem_cons_succ, List.setIfInBounds_toArray, List.set_cons_zero, List.set_cons_succ]
        refine wpAnyH_take (i := 11) (v := ?_) rfl (by kernel_rfl) (by kernel_rfl) (by kernel_rfl) (fun _ _ _ h => h) (Or.inl ⟨by rfl, ?_⟩) (by assumption) ?_
        rotate_left
        · (intro w hSw; (try dsimp only at hSw); go_simp; try with_reducible rfl)
        try simp only [Act.put, List.getElem_toArray, List.getElem_cons_zero, List.getElem_cons_succ, List.setIfInBounds_toArray, List.set_cons_zero, List.set_cons_succ]
        refine wpAnyH_take (i := 12) (v := ?_) rfl (by kernel_rfl) (by kernel_rfl) (by kernel_rfl) (fun _ _ _ h => h) (Or.inl ⟨by rfl, ?_⟩) (by assumption) ?_
        rotate_left
        · (intro w hSw; (try dsimp only at hSw); go_simp; try with_reducible rfl)
        try simp only [Act.put, List.getElem_toArray, List.getElem_cons_zero, List.getElem_cons_succ, List.setIfInBounds_toArray, List.set_cons_zero, List.set_cons_succ]
        refine wpAnyH_take (i := 13) (v := ?_) rfl (by kernel_rfl) (by kernel_rfl) (by kernel_rfl) (fun _ _ _ h => h) (Or.inl ⟨by rfl, ?_⟩) (by assumption) ?_
        rotate_left
        · (intro w hSw; (try dsimp only at hSw); go_simp; try with_reducible rfl)
        try simp only [Act.put, List.getElem_toArray, List.getElem_cons_zero, List.getElem_cons_succ, List.setIfInBounds_toArray, List.set_cons_zero, List.set_cons_succ]
        refine wpAnyH_ready (rs := [4, 14]) (by kernel_rfl) (by simp) ?_
        refine AllReadyH.cons rfl (fun K hK => ?_) (AllReadyH.cons rfl (fun K hK => ?_) AllReadyH.nil)
        · go_simp
          refine hK.out _ _ ⟨y0, e1⟩ (fun hHeld => ?_)
          clear hK K
          try simp only [Act.put, List.getElem_toArray, List.getElem_cons_zero, List.getElem_cons_succ, List.setIfInBounds_toArray, List.set_cons_zero, List.set_cons_succ]
          refine wpAnyH_ready (rs := [14]) (by kernel_rfl) (by simp) ?_
          refine AllReadyH.cons rfl (fun K hK => ?_) AllReadyH.nil
          go_simp
          refine hK.out _ _ ⟨y1, z1⟩ (fun hHeld => ?_)
          clear hK K
          try simp only [Act.put, List.getElem_toArray, List.getElem_cons_zero, List.getElem_cons_succ, List.setIfInBounds_toArray, List.set_cons_zero, List.set_cons_succ]
          refine wpAnyH_ready (rs := [15]) (by kernel_rfl) (by simp) ?_
          refine AllReadyH.cons rfl (fun K hK => ?_) AllReadyH.nil
          rw [if_pos (by rfl)]
          refine append_wp _ _ _ rfl _ _ _ rfl rfl hrun ?_
          refine hK.out _ _ ⟨y2, z2⟩ (fun hHeld => ?_)
          clear hK K
          try simp only [Act.put, List.getElem_toArray, List.getElem_cons_zero, List.getElem_cons_succ, List.setIfInBounds_toArray, List.set_cons_zero, List.set_cons_succ]
          refine wpAnyH_take (i := 16) (v := ?_) rfl (by kernel_rfl) (by kernel_rfl) (by kernel_rfl) (fun _ _ _ h => h) (Or.inl ⟨by rfl, ?_⟩) (by assumption) ?_
          rotate_left
          · (intro w hSw; (try dsimp only at hSw); go_simp; try with_reducible rfl)
          try simp only [Act.put, List.getElem_toArray, List.getElem_cons_zero, List.getElem_cons_succ, List.setIfInBounds_toArray, List.set_cons_zero, List.set_cons_succ]
          refine wpAnyH_take (i := 17) (v := ?_) rfl (by kernel_rfl) (by kernel_rfl) (by kernel_rfl) (fun _ _ _ h => h) (Or.inl ⟨by rfl, ?_⟩) (by assumption) ?_
          rotate_left
          · (intro w hSw; (try dsimp only at hSw); go_simp; try with_reducible rfl)
          try simp only [Act.put, List.getElem_toArray, List.getElem_cons_zero, List.getElem_cons_succ, List.setIfInBounds_toArray, List.set_cons_zero, List.set_cons_succ]
          refine wpAnyH_ready (rs := [18]) (by kernel_rfl) (by simp) ?_
          refine AllReadyH.cons rfl (fun K hK => ?_) AllReadyH.nil
          go_simp
          refine hK.out _ _ ⟨y3, z3⟩ (fun hHeld => ?_)
          clear hK K
          try simp only [Act.put, List.getElem_toArray, List.getElem_cons_zero, List.getElem_cons_succ, List.setIfInBounds_toArray, List.set_cons_zero, List.set_cons_succ]
          refine wpAnyH_done (by kernel_rfl) ?_ _
          go_wp2_with (go_quiet (fail))
          go_wp2_with (go_quiet (fail))
          go_ret
          exact ⟨⟨a0 + 2, false, bl + 1, ls ++ [(a0, l)]⟩, (.slice A5 n5 c5), by rw [HT.out]; rfl, by rw [HT.out]; rfl, (((HM3.out.set6 ((.slice A5 n5 c5))).set5 (.int .i64 (bl + 1))).set3 (.int .i64 (a0 + 2))), ((((HO2.out.kept (grown_cs _ b 6 (.slice A5 n5 c5)) HAp2.out.or).below (bdrewN (Below.refl _ _) _)).kept (grown_cs _ b 5 (.int .i64 (bl + 1))) HAp2.out.or).kept (grown_cs _ b 3 (.int .i64 (a0 + 2))) HAp2.out.or), HAp2.out, (((bdrewN (HB8.out.setCell (p := ⟨b, 6, none⟩) hB1 ((.slice A5 n5 c5))) _).setCell (p := ⟨b, 5, none⟩) hB1 (.int .i64 (bl + 1))).setCell (p := ⟨b, 3, none⟩) hB1 (.int .i64 (a0 + 2)))⟩
        · go_simp
          refine hK.out _ _ ⟨y1, z1⟩ (fun hHeld => ?_)
          clear hK K
          try simp only [Act.put, List.getElem_toArray, List.getElem_cons_zero, List.getElem_cons_succ, List.setIfInBounds_toArray, List.set_cons_zero, List.set_cons_succ]
          refine wpAnyH_ready (rs := [4]) (by kernel_rfl) (by simp) ?_
          refine AllReadyH.cons rfl (fun K hK => ?_) AllReadyH.nil
          go_simp
          refine hK.out _ _ ⟨y1, z1⟩ (fun hHeld => ?_)
          clear hK K
          try simp only [Act.put, List.getElem_toArray, List.getElem_cons_zero, List.getElem_cons_succ, List.setIfInBounds_toArray, List.set_cons_zero, List.set_cons_succ]
          refine wpAnyH_ready (rs := [15]) (by kernel_rfl) (by simp) ?_
          refine AllReadyH.cons rfl (fun K hK => ?_) AllReadyH.nil
          rw [if_pos (by rfl)]
          refine append_wp _ _ _ rfl _ _ _ rfl rfl hrun ?_
          refine hK.out _ _ ⟨y2, z2⟩ (fun hHeld => ?_)
          clear hK K
          try simp only [Act.put, List.getElem_toArray, List.getElem_cons_zero, List.getElem_cons_succ, List.setIfInBounds_toArray, List.set_cons_zero, List.set_cons_succ]
          refine wpAnyH_take (i := 16) (v := ?_) rfl (by kernel_rfl) (by kernel_rfl) (by kernel_rfl) (fun _ _ _ h => h) (Or.inl ⟨by rfl, ?_⟩) (by assumption) ?_
          rotate_left
          · (intro w hSw; (try dsimp only at hSw); go_simp; try with_reducible rfl)
          try simp only [Act.put, List.getElem_toArray, List.getElem_cons_zero, List.getElem_cons_succ, List.setIfInBounds_toArray, List.set_cons_zero, List.set_cons_succ]
          refine wpAnyH_take (i := 17) (v := ?_) rfl (by kernel_rfl) (by kernel_rfl) (by kernel_rfl) (fun _ _ _ h => h) (Or.inl ⟨by rfl, ?_⟩) (by assumption) ?_
          rotate_left
          · (intro w hSw; (try dsimp only at hSw); go_simp; try with_reducible rfl)
          try simp only [Act.put, List.getElem_toArray, List.getElem_cons_zero, List.getElem_cons_succ, List.setIfInBounds_toArray, List.set_cons_zero, List.set_cons_succ]
          refine wpAnyH_ready (rs := [18]) (by kernel_rfl) (by simp) ?_
          refine AllReadyH.cons rfl (fun K hK => ?_) AllReadyH.nil
          go_simp
          refine hK.out _ _ ⟨y3, z3⟩ (fun hHeld => ?_)
          clear hK K
          try simp only [Act.put, List.getElem_toArray, List.getElem_cons_zero, List.getElem_cons_succ, List.setIfInBounds_toArray, List.set_cons_zero, List.set_cons_succ]
          refine wpAnyH_done (by kernel_rfl) ?_ _
          go_wp2_with (go_quiet (fail))
          go_wp2_with (go_quiet (fail))
          go_ret
          exact ⟨⟨a0 + 2, false, bl + 1, ls ++ [(a0, l)]⟩, (.slice A5 n5 c5), by rw [HT.out]; rfl, by rw [HT.out]; rfl, (((HM3.out.set6 ((.slice A5 n5 c5))).set5 (.int .i64 (bl + 1))).set3 (.int .i64 (a0 + 2))), ((((HO2.out.kept (grown_cs _ b 6 (.slice A5 n5 c5)) HAp2.out.or).below (bdrewN (Below.refl _ _) _)).kept (grown_cs _ b 5 (.int .i64 (bl + 1))) HAp2.out.or).kept (grown_cs _ b 3 (.int .i64 (a0 + 2))) HAp2.out.or), HAp2.out, (((bdrewN (HB8.out.setCell (p := ⟨b, 6, none⟩) hB1 ((.slice A5 n5 c5))) _).setCell (p := ⟨b, 5, none⟩) hB1 (.int .i64 (bl + 1))).setCell (p := ⟨b, 3, none⟩) hB1 (.int .i64 (a0 + 2)))⟩
  | true =>
    rcases Classical.em (x.2.1 < a0 + 2) with h1 | h1
    · rcases Classical.em (300 < a0 + 2) with h3 | h3
      · have hs : tyStop x ⟨a0, true, bl, ls⟩ 2 := by unfold tyStop; dsimp only; exact .inr h3
        have HT := Lib.hid (show tyStep x (0, l) ⟨a0, true, bl, ls⟩ = none from tyStep_stop (d := 2) HSW.out (by decide) hs)
        have t1 : decide (x.2.1 < a0 + 2) = true := decide_eq_true h1
        have t3 : decide (300 < a0 + 2) = true := decide_eq_true h3
        clear h3
        clear hs h1
        clear p1 p2 p3 p4 p5 hm hown hap
        go_enter Try.func136, Try.ntmps136
        go_wp2_with (go_at_call 162; refine (l04Step_any 0 HKK.out _).mono ?_; rintro e w9 ⟨rfl, rfl⟩; rw [HSW.out])
        go_wp2_with (go_quiet (fail))
        go_ret
        exact ⟨⟨a0, true, bl, ls⟩, (.slice A2 n2 c2), by rw [HT.out]; rfl, by rw [HT.out]; rfl, Hm.out, HO.out.below (bdrewN (Below.refl _ _) _), HAp.out, bdrewN (Below.refl _ _) _⟩
      · have hns : ¬ tyStop x ⟨a0, true, bl, ls⟩ 2 := by unfold tyStop; dsimp only; have := HQ.out; simp; omega
        have hle : a0 + 2 ≤ 300 := by have := HQ.out; omega
        have HLe := Lib.hid hle
        have hT := tyStep_move (c := x) (a := (0, l)) (s := (⟨a0, true, bl, ls⟩ : TySt)) (d := 2) HSW.out (by decide) hns
        unfold tyMove at hT
        dsimp only at hT
        rw [if_pos rfl] at hT
        have t1 : decide (x.2.1 < a0 + 2) = true := decide_eq_true h1
        have t3 : decide (300 < a0 + 2) = false := decide_eq_false (by omega)
        clear hns h1 hle h3
        rcases ff2 (a0 < x.2.2) (x.2.2 ≤ a0 + 2) with h | ⟨h, h2⟩ | ⟨h, h2⟩
        · have t4 : decide (a0 < x.2.2) = false := decide_eq_false h
          rw [if_neg (fun q => h q.1)] at hT
          have HT := Lib.hid hT
          clear hT h
          clear p1 p2 p3 p4 p5 hm hown hap
          go_enter Try.func136, Try.ntmps136
          go_wp2_with (go_at_call 162; refine (l04Step_any 0 HKK.out _).mono ?_; rintro e w9 ⟨rfl, rfl⟩; rw [HSW.out])
          go_wp2_with (go_quiet (fail))
          generalize hWD : World.drewN w _ = WD
          have hbW : Below w.heap.size w WD := by rw [← hWD]; exact bdrewN (Below.refl _ _) _
          have hbWB : Below B w WD := by rw [← hWD]; exact bdrewN (Below.refl _ _) _
          clear hWD
          have hbs' : base ≤ WD.heap.size := Nat.le_trans hbs hbW.size
          have Hm2 := Hm.out.below hbW
          have ow2 := ((HO.out.below hbW).below (bdr (Below.refl _ _))).below (bal (Below.refl _ _) (.cells #[.int .i64 a0, .string l] 128))
          have e1 : WD.drew.cell? ⟨ba, oa + 1, none⟩ = some (.string l) := (hbWB.cell (p := ⟨ba, oa + 1, none⟩) hba).trans hc1
          have hbs2 : base ≤ (WD.drew.alloc (.cells #[.int .i64 a0, .string l] 128)).heap.size := by rw [World.size_alloc]; exact Nat.le_succ_of_le hbs'
          have hnw : ∀ j u, ([.int .i64 a0, .string l] : List Value)[j]? = some u → (WD.drew.alloc (.cells #[.int .i64 a0, .string l] 128)).cell? ((⟨WD.heap.size, 0, none⟩ : Addr).add j) = some u := cells_two_new WD.drew (.int .i64 a0) (.string l) 128
          obtain ⟨v2, w4, hrun, hown2', hg2, _, hat2⟩ := run_append_own_at (P := Try.prog) (w := WD.drew.alloc (.cells #[.int .i64 a0, .string l] 128)) base 61 61 128 i0 _ 2 24 Try.underlying61 hi0 hz hsz hby rfl (by omega) _ _ _ ow2.2 ⟨WD.heap.size, 0, none⟩ 1 1 [.int .i64 a0, .string l] rfl hnw (by simp [Value.oneCell']) (by unfold maxLen; omega) (by omega) hbs2
          have hown2 : Own w4 base 128 encStruck 2 v2 (ls ++ [(a0, l)]) := ⟨fun _ => rfl, by rw [List.flatMap_append, List.length_append]; simpa using hown2'⟩
          clear hown2'
          obtain ⟨A5, n5, c5, rfl⟩ := own_slice hown2
          have Hma := (show At7 WD.drew b 141 (.int .i64 x.1) (.int .i64 x.2.1) (.int .i64 x.2.2) (.int .i64 a0) (.bool true) (.int .i64 bl) (.slice A2 n2 c2) from Hm2).alloc (.cells #[.int .i64 a0, .string l] 128)
          have Hm3 := Hma.grown hg2 HAp.out.ne
          have ap2 := HAp.out.next (by have := Hma.lt; exact this) hat2
          have hb7 := below_own (B := B) ow2 hg2 hB2 (Nat.le_trans hB2 hbs2)
          have hb8 : Below B w w4 := ((hbWB.drew).alloc (Nat.le_trans hB2 hbs') (.cells #[.int .i64 a0, .string l] 128)).trans hb7
          have Hm4 := Hm3.set6 (.slice A5 n5 c5)
          have x0 : WD.drew.cell? ⟨b, 6, none⟩ = some (.slice A2 n2 c2) := Hm2.cell6
          have x1 := Hma.cell6
          have x1' : (WD.alloc (.cells #[.int .i64 a0, .string l] 128)).drew.cell? ⟨b, 6, none⟩ = some (.slice A2 n2 c2) := Hma.cell6
          have x2 := Hm3.cell6
          have x3 := Hm3.frozen 6
          have y0 : WD.drew.cell? ⟨b, 3, none⟩ = some (.int .i64 a0) := Hm2.cell3
          have y1 := Hma.cell3
          have y2 := Hm3.cell3
          have y3 := Hm4.cell3
          have z1 := ((bal (Below.refl _ _) (.cells #[.int .i64 a0, .string l] 128)).cell (p := ⟨ba, oa + 1, none⟩) (by have := Hm2.lt; show ba < WD.heap.size; omega)).trans e1
          have z2 := (hb7.cell (p := ⟨ba, oa + 1, none⟩) hba).trans z1
          have z3 := ((Below.refl B w4).setCell (p := ⟨b, 6, none⟩) hB1 (.slice A5 n5 c5) |>.cell (p := ⟨ba, oa + 1, none⟩) hba).trans z2
          have m2 := Hm4.cell2
          have m5 := Hm4.cell5
          have m3f := Hm4.frozen 3
          have m5f := Hm4.frozen 5
          have m3g := (Hm4.set5 (.int .i64 (bl + 1))).frozen 3
          have m3h := (Hm4.set5 (.int .i64 (bl + 1))).cell3
          have HO2 := Lib.hid hown2
          have HAp2 := Lib.hid ap2
          have HB8 := Lib.hid hb8
          have HM3 := Lib.hid Hm3
          clear Hm2 ow2 Hma Hm3 Hm4 hown2 hb7 hb8 hg2 hat2 hnw hbW hbWB ap2
          go_wp2_with fail
          refine wp_region_held_drew (S := fun w' => w'.cell? ⟨b, 3, none⟩ = some (.int .i64 a0) ∧ w'.cell? ⟨ba, oa + 1, none⟩ = some (.string l)) (by kernel_rfl) ⟨y0, e1⟩ (fun hHeld => ?_)
          refine wpAnyH_take (i := 0) (v := ?_) rfl (by kernel_rfl) (by kernel_rfl) (by kernel_rfl) (fun _ _ _ h => h) (Or.inl ⟨by rfl, ?_⟩) (by assumption) ?_
          rotate_left
          · (intro w hSw; (try dsimp only at hSw); go_simp; try with_reducible rfl)
          try simp only [Act.put, List.getElem_toArray, List.getElem_cons_zero, List.getElem_cons_succ, List.setIfInBounds_toArray, List.set_cons_zero, List.set_cons_succ]
          refine wpAnyH_take (i := 1) (v := ?_) rfl (by kernel_rfl) (by kernel_rfl) (by kernel_rfl) (fun _ _ _ h => h) (Or.inl ⟨by rfl, ?_⟩) (by assumption) ?_
          rotate_left
          · (intro w hSw; (try dsimp only at hSw); go_simp; try with_reducible rfl)
          try simp only [Act.put, List.getElem_toArray, List.getElem_cons_zero, List.getElem_cons_succ, List.setIfInBounds_toArray, List.set_cons_zero, List.set_cons_succ]
          refine wpAnyH_take (i := 2) (v := ?_) rfl (by kernel_rfl) (by kernel_rfl) (by kernel_rfl) (fun _ _ _ h => h) (Or.inl ⟨by rfl, ?_⟩) (by assumption) ?_
          rotate_left
          · (intro w hSw; (try dsimp only at hSw); go_simp; try with_reducible rfl)
          try simp only [Act.put, List.getElem_toArray, List.getElem_cons_zero, List.getElem_cons_succ, List.setIfInBounds_toArray, List.set_cons_zero, List.set_cons_succ]
          refine wpAnyH_take (i := 3) (v := ?_) rfl (by kernel_rfl) (by kernel_rfl) (by kernel_rfl) (fun _ _ _ h => h) (Or.inl ⟨by rfl, ?_⟩) (by assumption) ?_
          rotate_left
          · (intro w hSw; (try dsimp only at hSw); go_simp; try with_reducible rfl)
          try simp only [Act.put, List.getElem_toArray, List.getElem_cons_zero, List.getElem_cons_succ, List.setIfInBounds_toArray, List.set_cons_zero, List.set_cons_succ]
          refine wpAnyH_take (i := 5) (v := ?_) rfl (by kernel_rfl) (by kernel_rfl) (by kernel_rfl) (fun _ _ _ h => h) (Or.inl ⟨by rfl, ?_⟩) (by assumption) ?_
          rotate_left
          · (intro w hSw; (try dsimp only at hSw); go_simp; try with_reducible rfl)
          try simp only [Act.put, List.getElem_toArray, List.getElem_cons_zero, List.getElem_cons_succ, List.setIfInBounds_toArray, List.set_cons_zero, List.set_cons_succ]
          refine wpAnyH_take (i := 6) (v := ?_) rfl (by kernel_rfl) (by kernel_rfl) (by kernel_rfl) (fun _ _ _ h => h) (Or.inl ⟨by rfl, ?_⟩) (by assumption) ?_
          rotate_left
          · (intro w hSw; (try dsimp only at hSw); go_simp; try with_reducible rfl)
          try simp only [Act.put, List.getElem_toArray, List.getElem_cons_zero, List.getElem_cons_succ, List.setIfInBounds_toArray, List.set_cons_zero, List.set_cons_succ]
          refine wpAnyH_take (i := 7) (v := ?_) rfl (by kernel_rfl) (by kernel_rfl) (by kernel_rfl) (fun _ _ _ h => h) (Or.inl ⟨by rfl, ?_⟩) (by assumption) ?_
          rotate_left
          · (intro w hSw; (try dsimp only at hSw); go_simp; try with_reducible rfl)
          try simp only [Act.put, List.getElem_toArray, List.getElem_cons_zero, List.getElem_cons_succ, List.setIfInBounds_toArray, List.set_cons_zero, List.set_cons_succ]
          refine wpAnyH_take (i := 8) (v := ?_) rfl (by kernel_rfl) (by kernel_rfl) (by kernel_rfl) (fun _ _ _ h => h) (Or.inl ⟨by rfl, ?_⟩) (by assumption) ?_
          rotate_left
          · (intro w hSw; (try dsimp only at hSw); go_simp; try with_reducible rfl)
          try simp only [Act.put, List.getElem_toArray, List.getElem_cons_zero, List.getElem_cons_succ, List.setIfInBounds_toArray, List.set_cons_zero, List.set_cons_succ]
          refine wpAnyH_take (i := 9) (v := ?_) rfl (by kernel_rfl) (by kernel_rfl) (by kernel_rfl) (fun _ _ _ h => h) (Or.inl ⟨by rfl, ?_⟩) (by assumption) ?_
          rotate_left
          · (intro w hSw; (try dsimp only at hSw); go_simp; try with_reducible rfl)
          try simp only [Act.put, List.getElem_toArray, List.getElem_cons_zero, List.getElem_cons_succ, List.setIfInBounds_toArray, List.set_cons_zero, List.set_cons_succ]
          refine wpAnyH_take (i := 10) (v := ?_) rfl (by kernel_rfl) (by kernel_rfl) (by kernel_rfl) (fun _ _ _ h => h) (Or.inl ⟨by rfl, ?_⟩) (by assumption) ?_
          rotate_left
          · (intro w hSw; (try dsimp only at hSw); go_simp; try with_reducible rfl)
          try simp only [Act.put, List.getElem_toArray, List.getElem_cons_zero, List.getElem_cons_succ, List.setIfInBounds_toArray, List.set_cons_zero, List.set_cons_succ]
          refine wpAnyH_take (i := 11) (v := ?_) rfl (by kernel_rfl) (by kernel_rfl) (by kernel_rfl) (fun _ _ _ h => h) (Or.inl ⟨by rfl, ?_⟩) (by assumption) ?_
          rotate_left
          · (intro w hSw; (try dsimp only at hSw); go_simp; try with_reducible rfl)
          try simp only [Act.put, List.getElem_toArray, List.getElem_cons_zero, List.getElem_cons_succ, List.setIfInBounds_toArray, List.set_cons_zero, List.set_cons_succ]
          refine wpAnyH_take (i := 12) (v := ?_) rfl (by kernel_rfl) (by kernel_rfl) (by kernel_rfl) (fun _ _ _ h => h) (Or.inl ⟨by rfl, ?_⟩) (by assumption) ?_
          rotate_left
          · (intro w hSw; (try dsimp only at hSw); go_simp; try with_reducible rfl)
          try simp only [Act.put, List.getElem_toArray, List.getElem_cons_zero, List.getElem_cons_succ, List.setIfInBounds_toArray, List.set_cons_zero, List.set_cons_succ]
          refine wpAnyH_take (i := 13) (v := ?_) rfl (by kernel_rfl) (by kernel_rfl) (by kernel_rfl) (fun _ _ _ h => h) (Or.inl ⟨by rfl, ?_⟩) (by assumption) ?_
          rotate_left
          · (intro w hSw; (try dsimp only at hSw); go_simp; try with_reducible rfl)
          try simp only [Act.put, List.getElem_toArray, List.getElem_cons_zero, List.getElem_cons_succ, List.setIfInBounds_toArray, List.set_cons_zero, List.set_cons_succ]
          refine wpAnyH_ready (rs := [4, 14]) (by kernel_rfl) (by simp) ?_
          refine AllReadyH.cons rfl (fun K hK => ?_) (AllReadyH.cons rfl (fun K hK => ?_) AllReadyH.nil)
          · go_simp
            refine hK.out _ _ ⟨y0, e1⟩ (fun hHeld => ?_)
            clear hK K
            try simp only [Act.put, List.getElem_toArray, List.getElem_cons_zero, List.getElem_cons_succ, List.setIfInBounds_toArray, List.set_cons_zero, List.set_cons_succ]
            refine wpAnyH_ready (rs := [14]) (by kernel_rfl) (by simp) ?_
            refine AllReadyH.cons rfl (fun K hK => ?_) AllReadyH.nil
            go_simp
            refine hK.out _ _ ⟨y1, z1⟩ (fun hHeld => ?_)
            clear hK K
            try simp only [Act.put, List.getElem_toArray, List.getElem_cons_zero, List.getElem_cons_succ, List.setIfInBounds_toArray, List.set_cons_zero, List.set_cons_succ]
            refine wpAnyH_ready (rs := [15]) (by kernel_rfl) (by simp) ?_
            refine AllReadyH.cons rfl (fun K hK => ?_) AllReadyH.nil
            rw [if_pos (by rfl)]
            refine append_wp _ _ _ rfl _ _ _ rfl rfl hrun ?_
            refine hK.out _ _ ⟨y2, z2⟩ (fun hHeld => ?_)
            clear hK K
            try simp only [Act.put, List.getElem_toArray, List.getElem_cons_zero, List.getElem_cons_succ, List.setIfInBounds_toArray, List.set_cons_zero, List.set_cons_succ]
            refine wpAnyH_take (i := 16) (v := ?_) rfl (by kernel_rfl) (by kernel_rfl) (by kernel_rfl) (fun _ _ _ h => h) (Or.inl ⟨by rfl, ?_⟩) (by assumption) ?_
            rotate_left
            · (intro w hSw; (try dsimp only at hSw); go_simp; try with_reducible rfl)
            try simp only [Act.put, List.getElem_toArray, List.getElem_cons_zero, List.getElem_cons_succ, List.setIfInBounds_toArray, List.set_cons_zero, List.set_cons_succ]
            refine wpAnyH_take (i := 17) (v := ?_) rfl (by kernel_rfl) (by kernel_rfl) (by kernel_rfl) (fun _ _ _ h => h) (Or.inl ⟨by rfl, ?_⟩) (by assumption) ?_
            rotate_left
            · (intro w hSw; (try dsimp only at hSw); go_simp; try with_reducible rfl)
            try simp only [Act.put, List.getElem_toArray, List.getElem_cons_zero, List.getElem_cons_succ, List.setIfInBounds_toArray, List.set_cons_zero, List.set_cons_succ]
            refine wpAnyH_ready (rs := [18]) (by kernel_rfl) (by simp) ?_
            refine AllReadyH.cons rfl (fun K hK => ?_) AllReadyH.nil
            go_simp
            refine hK.out _ _ ⟨y3, z3⟩ (fun hHeld => ?_)
            clear hK K
            try simp only [Act.put, List.getElem_toArray, List.getElem_cons_zero, List.getElem_cons_succ, List.setIfInBounds_toArray, List.set_cons_zero, List.set_cons_succ]
            refine wpAnyH_done (by kernel_rfl) ?_ _
            go_wp2_with (go_quiet (fail))
            go_wp2_with (go_quiet (fail))
            go_ret
            exact ⟨⟨a0 + 2, true, bl, ls ++ [(a0, l)]⟩, (.slice A5 n5 c5), by rw [HT.out]; rfl, by rw [HT.out]; rfl, ((HM3.out.set6 ((.slice A5 n5 c5))).set3 (.int .i64 (a0 + 2))), (((HO2.out.kept (grown_cs _ b 6 (.slice A5 n5 c5)) HAp2.out.or).below (bdrewN (Below.refl _ _) _)).kept (grown_cs _ b 3 (.int .i64 (a0 + 2))) HAp2.out.or), HAp2.out, ((bdrewN (HB8.out.setCell (p := ⟨b, 6, none⟩) hB1 ((.slice A5 n5 c5))) _).setCell (p := ⟨b, 3, none⟩) hB1 (.int .i64 (a0 + 2)))⟩
          · go_simp
            refine hK.out _ _ ⟨y1, z1⟩ (fun hHeld => ?_)
            clear hK K
            try simp only [Act.put, List.getElem_toArray, List.getElem_cons_zero, List.getElem_cons_succ, List.setIfInBounds_toArray, List.set_cons_zero, List.set_cons_succ]
            refine wpAnyH_ready (rs := [4]) (by kernel_rfl) (by simp) ?_
            refine AllReadyH.cons rfl (fun K hK => ?_) AllReadyH.nil
            go_simp
            refine hK.out _ _ ⟨y1, z1⟩ (fun hHeld => ?_)
            clear hK K
            try simp only [Act.put, List.getElem_toArray, List.getElem_cons_zero, List.getElem_cons_succ, List.setIfInBounds_toArray, List.set_cons_zero, List.set_cons_succ]
            refine wpAnyH_ready (rs := [15]) (by kernel_rfl) (by simp) ?_
            refine AllReadyH.cons rfl (fun K hK => ?_) AllReadyH.nil
            rw [if_pos (by rfl)]
            refine append_wp _ _ _ rfl _ _ _ rfl rfl hrun ?_
            refine hK.out _ _ ⟨y2, z2⟩ (fun hHeld => ?_)
            clear hK K
            try simp only [Act.put, List.getElem_toArray, List.getElem_cons_zero, List.getElem_cons_succ, List.setIfInBounds_toArray, List.set_cons_zero, List.set_cons_succ]
            refine wpAnyH_take (i := 16) (v := ?_) rfl (by kernel_rfl) (by kernel_rfl) (by kernel_rfl) (fun _ _ _ h => h) (Or.inl ⟨by rfl, ?_⟩) (by assumption) ?_
            rotate_left
            · (intro w hSw; (try dsimp only at hSw); go_simp; try with_reducible rfl)
            try simp only [Act.put, List.getElem_toArray, List.getElem_cons_zero, List.getElem_cons_succ, List.setIfInBounds_toArray, List.set_cons_zero, List.set_cons_succ]
            refine wpAnyH_take (i := 17) (v := ?_) rfl (by kernel_rfl) (by kernel_rfl) (by kernel_rfl) (fun _ _ _ h => h) (Or.inl ⟨by rfl, ?_⟩) (by assumption) ?_
            rotate_left
            · (intro w hSw; (try dsimp only at hSw); go_simp; try with_reducible rfl)
            try simp only [Act.put, List.getElem_toArray, List.getElem_cons_zero, List.getElem_cons_succ, List.setIfInBounds_toArray, List.set_cons_zero, List.set_cons_succ]
            refine wpAnyH_ready (rs := [18]) (by kernel_rfl) (by simp) ?_
            refine AllReadyH.cons rfl (fun K hK => ?_) AllReadyH.nil
            go_simp
            refine hK.out _ _ ⟨y3, z3⟩ (fun hHeld => ?_)
            clear hK K
            try simp only [Act.put, List.getElem_toArray, List.getElem_cons_zero, List.getElem_cons_succ, List.setIfInBounds_toArray, List.set_cons_zero, List.set_cons_succ]
            refine wpAnyH_done (by kernel_rfl) ?_ _
            go_wp2_with (go_quiet (fail))
            go_wp2_with (go_quiet (fail))
            go_ret
            exact ⟨⟨a0 + 2, true, bl, ls ++ [(a0, l)]⟩, (.slice A5 n5 c5), by rw [HT.out]; rfl, by rw [HT.out]; rfl, ((HM3.out.set6 ((.slice A5 n5 c5))).set3 (.int .i64 (a0 + 2))), (((HO2.out.kept (grown_cs _ b 6 (.slice A5 n5 c5)) HAp2.out.or).below (bdrewN (Below.refl _ _) _)).kept (grown_cs _ b 3 (.int .i64 (a0 + 2))) HAp2.out.or), HAp2.out, ((bdrewN (HB8.out.setCell (p := ⟨b, 6, none⟩) hB1 ((.slice A5 n5 c5))) _).setCell (p := ⟨b, 3, none⟩) hB1 (.int .i64 (a0 + 2)))⟩
        · have t4 : decide (a0 < x.2.2) = true := decide_eq_true h
          have t5 : decide (x.2.2 ≤ a0 + 2) = false := decide_eq_false h2
          rw [if_neg (fun q => h2 q.2)] at hT
          have HT := Lib.hid hT
          clear hT h h2
          clear p1 p2 p3 p4 p5 hm hown hap
          go_enter Try.func136, Try.ntmps136
          go_wp2_with (go_at_call 162; refine (l04Step_any 0 HKK.out _).mono ?_; rintro e w9 ⟨rfl, rfl⟩; rw [HSW.out])
          go_wp2_with (go_quiet (fail))
          generalize hWD : World.drewN w _ = WD
          have hbW : Below w.heap.size w WD := by rw [← hWD]; exact bdrewN (Below.refl _ _) _
          have hbWB : Below B w WD := by rw [← hWD]; exact bdrewN (Below.refl _ _) _
          clear hWD
          have hbs' : base ≤ WD.heap.size := Nat.le_trans hbs hbW.size
          have Hm2 := Hm.out.below hbW
          have ow2 := ((HO.out.below hbW).below (bdr (Below.refl _ _))).below (bal (Below.refl _ _) (.cells #[.int .i64 a0, .string l] 128))
          have e1 : WD.drew.cell? ⟨ba, oa + 1, none⟩ = some (.string l) := (hbWB.cell (p := ⟨ba, oa + 1, none⟩) hba).trans hc1
          have hbs2 : base ≤ (WD.drew.alloc (.cells #[.int .i64 a0, .string l] 128)).heap.size := by rw [World.size_alloc]; exact Nat.le_succ_of_le hbs'
          have hnw : ∀ j u, ([.int .i64 a0, .string l] : List Value)[j]? = some u → (WD.drew.alloc (.cells #[.int .i64 a0, .string l] 128)).cell? ((⟨WD.heap.size, 0, none⟩ : Addr).add j) = some u := cells_two_new WD.drew (.int .i64 a0) (.string l) 128
          obtain ⟨v2, w4, hrun, hown2', hg2, _, hat2⟩ := run_append_own_at (P := Try.prog) (w := WD.drew.alloc (.cells #[.int .i64 a0, .string l] 128)) base 61 61 128 i0 _ 2 24 Try.underlying61 hi0 hz hsz hby rfl (by omega) _ _ _ ow2.2 ⟨WD.heap.size, 0, none⟩ 1 1 [.int .i64 a0, .string l] rfl hnw (by simp [Value.oneCell']) (by unfold maxLen; omega) (by omega) hbs2
          have hown2 : Own w4 base 128 encStruck 2 v2 (ls ++ [(a0, l)]) := ⟨fun _ => rfl, by rw [List.flatMap_append, List.length_append]; simpa using hown2'⟩
          clear hown2'
          obtain ⟨A5, n5, c5, rfl⟩ := own_slice hown2
          have Hma := (show At7 WD.drew b 141 (.int .i64 x.1) (.int .i64 x.2.1) (.int .i64 x.2.2) (.int .i64 a0) (.bool true) (.int .i64 bl) (.slice A2 n2 c2) from Hm2).alloc (.cells #[.int .i64 a0, .string l] 128)
          have Hm3 := Hma.grown hg2 HAp.out.ne
          have ap2 := HAp.out.next (by have := Hma.lt; exact this) hat2
          have hb7 := below_own (B := B) ow2 hg2 hB2 (Nat.le_trans hB2 hbs2)
          have hb8 : Below B w w4 := ((hbWB.drew).alloc (Nat.le_trans hB2 hbs') (.cells #[.int .i64 a0, .string l] 128)).trans hb7
          have Hm4 := Hm3.set6 (.slice A5 n5 c5)
          have x0 : WD.drew.cell? ⟨b, 6, none⟩ = some (.slice A2 n2 c2) := Hm2.cell6
          have x1 := Hma.cell6
          have x1' : (WD.alloc (.cells #[.int .i64 a0, .string l] 128)).drew.cell? ⟨b, 6, none⟩ = some (.slice A2 n2 c2) := Hma.cell6
          have x2 := Hm3.cell6
          have x3 := Hm3.frozen 6
          have y0 : WD.drew.cell? ⟨b, 3, none⟩ = some (.int .i64 a0) := Hm2.cell3
          have y1 := Hma.cell3
          have y2 := Hm3.cell3
          have y3 := Hm4.cell3
          have z1 := ((bal (Below.refl _ _) (.cells #[.int .i64 a0, .string l] 128)).cell (p := ⟨ba, oa + 1, none⟩) (by have := Hm2.lt; show ba < WD.heap.size; omega)).trans e1
          have z2 := (hb7.cell (p := ⟨ba, oa + 1, none⟩) hba).trans z1
          have z3 := ((Below.refl B w4).setCell (p := ⟨b, 6, none⟩) hB1 (.slice A5 n5 c5) |>.cell (p := ⟨ba, oa + 1, none⟩) hba).trans z2
          have m2 := Hm4.cell2
          have m5 := Hm4.cell5
          have m3f := Hm4.frozen 3
          have m5f := Hm4.frozen 5
          have m3g := (Hm4.set5 (.int .i64 (bl + 1))).frozen 3
          have m3h := (Hm4.set5 (.int .i64 (bl + 1))).cell3
          have HO2 := Lib.hid hown2
          have HAp2 := Lib.hid ap2
          have HB8 := Lib.hid hb8
          have HM3 := Lib.hid Hm3
          clear Hm2 ow2 Hma Hm3 Hm4 hown2 hb7 hb8 hg2 hat2 hnw hbW hbWB ap2
          go_wp2_with fail
          refine wp_region_held_drew (S := fun w' => w'.cell? ⟨b, 3, none⟩ = some (.int .i64 a0) ∧ w'.cell? ⟨ba, oa + 1, none⟩ = some (.string l)) (by kernel_rfl) ⟨y0, e1⟩ (fun hHeld => ?_)
          refine wpAnyH_take (i := 0) (v := ?_) rfl (by kernel_rfl) (by kernel_rfl) (by kernel_rfl) (fun _ _ _ h => h) (Or.inl ⟨by rfl, ?_⟩) (by assumption) ?_
          rotate_left
          · (intro w hSw; (try dsimp only at hSw); go_simp; try with_reducible rfl)
          try simp only [Act.put, List.getElem_toArray, List.getElem_cons_zero, List.getElem_cons_succ, List.setIfInBounds_toArray, List.set_cons_zero, List.set_cons_succ]
          refine wpAnyH_take (i := 1) (v := ?_) rfl (by kernel_rfl) (by kernel_rfl) (by kernel_rfl) (fun _ _ _ h => h) (Or.inl ⟨by rfl, ?_⟩) (by assumption) ?_
          rotate_left
          · (intro w hSw; (try dsimp only at hSw); go_simp; try with_reducible rfl)
          try simp only [Act.put, List.getElem_toArray, List.getElem_cons_zero, List.getElem_cons_succ, List.setIfInBounds_toArray, List.set_cons_zero, List.set_cons_succ]
          refine wpAnyH_take (i := 2) (v := ?_) rfl (by kernel_rfl) (by kernel_rfl) (by kernel_rfl) (fun _ _ _ h => h) (Or.inl ⟨by rfl, ?_⟩) (by assumption) ?_
          rotate_left
          · (intro w hSw; (try dsimp only at hSw); go_simp; try with_reducible rfl)
          try simp only [Act.put, List.getElem_toArray, List.getElem_cons_zero, List.getElem_cons_succ, List.setIfInBounds_toArray, List.set_cons_zero, List.set_cons_succ]
          refine wpAnyH_take (i := 3) (v := ?_) rfl (by kernel_rfl) (by kernel_rfl) (by kernel_rfl) (fun _ _ _ h => h) (Or.inl ⟨by rfl, ?_⟩) (by assumption) ?_
          rotate_left
          · (intro w hSw; (try dsimp only at hSw); go_simp; try with_reducible rfl)
          try simp only [Act.put, List.getElem_toArray, List.getElem_cons_zero, List.getElem_cons_succ, List.setIfInBounds_toArray, List.set_cons_zero, List.set_cons_succ]
          refine wpAnyH_take (i := 5) (v := ?_) rfl (by kernel_rfl) (by kernel_rfl) (by kernel_rfl) (fun _ _ _ h => h) (Or.inl ⟨by rfl, ?_⟩) (by assumption) ?_
          rotate_left
          · (intro w hSw; (try dsimp only at hSw); go_simp; try with_reducible rfl)
          try simp only [Act.put, List.getElem_toArray, List.getElem_cons_zero, List.getElem_cons_succ, List.setIfInBounds_toArray, List.set_cons_zero, List.set_cons_succ]
          refine wpAnyH_take (i := 6) (v := ?_) rfl (by kernel_rfl) (by kernel_rfl) (by kernel_rfl) (fun _ _ _ h => h) (Or.inl ⟨by rfl, ?_⟩) (by assumption) ?_
          rotate_left
          · (intro w hSw; (try dsimp only at hSw); go_simp; try with_reducible rfl)
          try simp only [Act.put, List.getElem_toArray, List.getElem_cons_zero, List.getElem_cons_succ, List.setIfInBounds_toArray, List.set_cons_zero, List.set_cons_succ]
          refine wpAnyH_take (i := 7) (v := ?_) rfl (by kernel_rfl) (by kernel_rfl) (by kernel_rfl) (fun _ _ _ h => h) (Or.inl ⟨by rfl, ?_⟩) (by assumption) ?_
          rotate_left
          · (intro w hSw; (try dsimp only at hSw); go_simp; try with_reducible rfl)
          try simp only [Act.put, List.getElem_toArray, List.getElem_cons_zero, List.getElem_cons_succ, List.setIfInBounds_toArray, List.set_cons_zero, List.set_cons_succ]
          refine wpAnyH_take (i := 8) (v := ?_) rfl (by kernel_rfl) (by kernel_rfl) (by kernel_rfl) (fun _ _ _ h => h) (Or.inl ⟨by rfl, ?_⟩) (by assumption) ?_
          rotate_left
          · (intro w hSw; (try dsimp only at hSw); go_simp; try with_reducible rfl)
          try simp only [Act.put, List.getElem_toArray, List.getElem_cons_zero, List.getElem_cons_succ, List.setIfInBounds_toArray, List.set_cons_zero, List.set_cons_succ]
          refine wpAnyH_take (i := 9) (v := ?_) rfl (by kernel_rfl) (by kernel_rfl) (by kernel_rfl) (fun _ _ _ h => h) (Or.inl ⟨by rfl, ?_⟩) (by assumption) ?_
          rotate_left
          · (intro w hSw; (try dsimp only at hSw); go_simp; try with_reducible rfl)
          try simp only [Act.put, List.getElem_toArray, List.getElem_cons_zero, List.getElem_cons_succ, List.setIfInBounds_toArray, List.set_cons_zero, List.set_cons_succ]
          refine wpAnyH_take (i := 10) (v := ?_) rfl (by kernel_rfl) (by kernel_rfl) (by kernel_rfl) (fun _ _ _ h => h) (Or.inl ⟨by rfl, ?_⟩) (by assumption) ?_
          rotate_left
          · (intro w hSw; (try dsimp only at hSw); go_simp; try with_reducible rfl)
          try simp only [Act.put, List.getElem_toArray, List.getElem_cons_zero, List.getElem_cons_succ, List.setIfInBounds_toArray, List.set_cons_zero, List.set_cons_succ]
          refine wpAnyH_take (i := 11) (v := ?_) rfl (by kernel_rfl) (by kernel_rfl) (by kernel_rfl) (fun _ _ _ h => h) (Or.inl ⟨by rfl, ?_⟩) (by assumption) ?_
          rotate_left
          · (intro w hSw; (try dsimp only at hSw); go_simp; try with_reducible rfl)
          try simp only [Act.put, List.getElem_toArray, List.getElem_cons_zero, List.getElem_cons_succ, List.setIfInBounds_toArray, List.set_cons_zero, List.set_cons_succ]
          refine wpAnyH_take (i := 12) (v := ?_) rfl (by kernel_rfl) (by kernel_rfl) (by kernel_rfl) (fun _ _ _ h => h) (Or.inl ⟨by rfl, ?_⟩) (by assumption) ?_
          rotate_left
          · (intro w hSw; (try dsimp only at hSw); go_simp; try with_reducible rfl)
          try simp only [Act.put, List.getElem_toArray, List.getElem_cons_zero, List.getElem_cons_succ, List.setIfInBounds_toArray, List.set_cons_zero, List.set_cons_succ]
          refine wpAnyH_take (i := 13) (v := ?_) rfl (by kernel_rfl) (by kernel_rfl) (by kernel_rfl) (fun _ _ _ h => h) (Or.inl ⟨by rfl, ?_⟩) (by assumption) ?_
          rotate_left
          · (intro w hSw; (try dsimp only at hSw); go_simp; try with_reducible rfl)
          try simp only [Act.put, List.getElem_toArray, List.getElem_cons_zero, List.getElem_cons_succ, List.setIfInBounds_toArray, List.set_cons_zero, List.set_cons_succ]
          refine wpAnyH_ready (rs := [4, 14]) (by kernel_rfl) (by simp) ?_
          refine AllReadyH.cons rfl (fun K hK => ?_) (AllReadyH.cons rfl (fun K hK => ?_) AllReadyH.nil)
          · go_simp
            refine hK.out _ _ ⟨y0, e1⟩ (fun hHeld => ?_)
            clear hK K
            try simp only [Act.put, List.getElem_toArray, List.getElem_cons_zero, List.getElem_cons_succ, List.setIfInBounds_toArray, List.set_cons_zero, List.set_cons_succ]
            refine wpAnyH_ready (rs := [14]) (by kernel_rfl) (by simp) ?_
            refine AllReadyH.cons rfl (fun K hK => ?_) AllReadyH.nil
            go_simp
            refine hK.out _ _ ⟨y1, z1⟩ (fun hHeld => ?_)
            clear hK K
            try simp only [Act.put, List.getElem_toArray, List.getElem_cons_zero, List.getElem_cons_succ, List.setIfInBounds_toArray, List.set_cons_zero, List.set_cons_succ]
            refine wpAnyH_ready (rs := [15]) (by kernel_rfl) (by simp) ?_
            refine AllReadyH.cons rfl (fun K hK => ?_) AllReadyH.nil
            rw [if_pos (by rfl)]
            refine append_wp _ _ _ rfl _ _ _ rfl rfl hrun ?_
            refine hK.out _ _ ⟨y2, z2⟩ (fun hHeld => ?_)
            clear hK K
            try simp only [Act.put, List.getElem_toArray, List.getElem_cons_zero, List.getElem_cons_succ, List.setIfInBounds_toArray, List.set_cons_zero, List.set_cons_succ]
            refine wpAnyH_take (i := 16) (v := ?_) rfl (by kernel_rfl) (by kernel_rfl) (by kernel_rfl) (fun _ _ _ h => h) (Or.inl ⟨by rfl, ?_⟩) (by assumption) ?_
            rotate_left
            · (intro w hSw; (try dsimp only at hSw); go_simp; try with_reducible rfl)
            try simp only [Act.put, List.getElem_toArray, List.getElem_cons_zero, List.getElem_cons_succ, List.setIfInBounds_toArray, List.set_cons_zero, List.set_cons_succ]
            refine wpAnyH_take (i := 17) (v := ?_) rfl (by kernel_rfl) (by kernel_rfl) (by kernel_rfl) (fun _ _ _ h => h) (Or.inl ⟨by rfl, ?_⟩) (by assumption) ?_
            rotate_left
            · (intro w hSw; (try dsimp only at hSw); go_simp; try with_reducible rfl)
            try simp only [Act.put, List.getElem_toArray, List.getElem_cons_zero, List.getElem_cons_succ, List.setIfInBounds_toArray, List.set_cons_zero, List.set_cons_succ]
            refine wpAnyH_ready (rs := [18]) (by kernel_rfl) (by simp) ?_
            refine AllReadyH.cons rfl (fun K hK => ?_) AllReadyH.nil
            go_simp
            refine hK.out _ _ ⟨y3, z3⟩ (fun hHeld => ?_)
            clear hK K
            try simp only [Act.put, List.getElem_toArray, List.getElem_cons_zero, List.getElem_cons_succ, List.setIfInBounds_toArray, List.set_cons_zero, List.set_cons_succ]
            refine wpAnyH_done (by kernel_rfl) ?_ _
            go_wp2_with (go_quiet (fail))
            go_wp2_with (go_quiet (fail))
            go_ret
            exact ⟨⟨a0 + 2, true, bl, ls ++ [(a0, l)]⟩, (.slice A5 n5 c5), by rw [HT.out]; rfl, by rw [HT.out]; rfl, ((HM3.out.set6 ((.slice A5 n5 c5))).set3 (.int .i64 (a0 + 2))), (((HO2.out.kept (grown_cs _ b 6 (.slice A5 n5 c5)) HAp2.out.or).below (bdrewN (Below.refl _ _) _)).kept (grown_cs _ b 3 (.int .i64 (a0 + 2))) HAp2.out.or), HAp2.out, ((bdrewN (HB8.out.setCell (p := ⟨b, 6, none⟩) hB1 ((.slice A5 n5 c5))) _).setCell (p := ⟨b, 3, none⟩) hB1 (.int .i64 (a0 + 2)))⟩
          · go_simp
            refine hK.out _ _ ⟨y1, z1⟩ (fun hHeld => ?_)
            clear hK K
            try simp only [Act.put, List.getElem_toArray, List.getElem_cons_zero, List.getElem_cons_succ, List.setIfInBounds_toArray, List.set_cons_zero, List.set_cons_succ]
            refine wpAnyH_ready (rs := [4]) (by kernel_rfl) (by simp) ?_
            refine AllReadyH.cons rfl (fun K hK => ?_) AllReadyH.nil
            go_simp
            refine hK.out _ _ ⟨y1, z1⟩ (fun hHeld => ?_)
            clear hK K
            try simp only [Act.put, List.getElem_toArray, List.getElem_cons_zero, List.getElem_cons_succ, List.setIfInBounds_toArray, List.set_cons_zero, List.set_cons_succ]
            refine wpAnyH_ready (rs := [15]) (by kernel_rfl) (by simp) ?_
            refine AllReadyH.cons rfl (fun K hK => ?_) AllReadyH.nil
            rw [if_pos (by rfl)]
            refine append_wp _ _ _ rfl _ _ _ rfl rfl hrun ?_
            refine hK.out _ _ ⟨y2, z2⟩ (fun hHeld => ?_)
            clear hK K
            try simp only [Act.put, List.getElem_toArray, List.getElem_cons_zero, List.getElem_cons_succ, List.setIfInBounds_toArray, List.set_cons_zero, List.set_cons_succ]
            refine wpAnyH_take (i := 16) (v := ?_) rfl (by kernel_rfl) (by kernel_rfl) (by kernel_rfl) (fun _ _ _ h => h) (Or.inl ⟨by rfl, ?_⟩) (by assumption) ?_
            rotate_left
            · (intro w hSw; (try dsimp only at hSw); go_simp; try with_reducible rfl)
            try simp only [Act.put, List.getElem_toArray, List.getElem_cons_zero, List.getElem_cons_succ, List.setIfInBounds_toArray, List.set_cons_zero, List.set_cons_succ]
            refine wpAnyH_take (i := 17) (v := ?_) rfl (by kernel_rfl) (by kernel_rfl) (by kernel_rfl) (fun _ _ _ h => h) (Or.inl ⟨by rfl, ?_⟩) (by assumption) ?_
            rotate_left
            · (intro w hSw; (try dsimp only at hSw); go_simp; try with_reducible rfl)
            try simp only [Act.put, List.getElem_toArray, List.getElem_cons_zero, List.getElem_cons_succ, List.setIfInBounds_toArray, List.set_cons_zero, List.set_cons_succ]
            refine wpAnyH_ready (rs := [18]) (by kernel_rfl) (by simp) ?_
            refine AllReadyH.cons rfl (fun K hK => ?_) AllReadyH.nil
            go_simp
            refine hK.out _ _ ⟨y3, z3⟩ (fun hHeld => ?_)
            clear hK K
            try simp only [Act.put, List.getElem_toArray, List.getElem_cons_zero, List.getElem_cons_succ, List.setIfInBounds_toArray, List.set_cons_zero, List.set_cons_succ]
            refine wpAnyH_done (by kernel_rfl) ?_ _
            go_wp2_with (go_quiet (fail))
            go_wp2_with (go_quiet (fail))
            go_ret
            exact ⟨⟨a0 + 2, true, bl, ls ++ [(a0, l)]⟩, (.slice A5 n5 c5), by rw [HT.out]; rfl, by rw [HT.out]; rfl, ((HM3.out.set6 ((.slice A5 n5 c5))).set3 (.int .i64 (a0 + 2))), (((HO2.out.kept (grown_cs _ b 6 (.slice A5 n5 c5)) HAp2.out.or).below (bdrewN (Below.refl _ _) _)).kept (grown_cs _ b 3 (.int .i64 (a0 + 2))) HAp2.out.or), HAp2.out, ((bdrewN (HB8.out.setCell (p := ⟨b, 6, none⟩) hB1 ((.slice A5 n5 c5))) _).setCell (p := ⟨b, 3, none⟩) hB1 (.int .i64 (a0 + 2)))⟩
        · have t4 : decide (a0 < x.2.2) = true := decide_eq_true h
          have t5 : decide (x.2.2 ≤ a0 + 2) = true := decide_eq_true h2
          rw [if_pos ⟨h, h2⟩] at hT
          have HT := Lib.hid hT
          clear hT h h2
          clear p1 p2 p3 p4 p5 hm hown hap
          have f3b := (Hm.out.set5 (.int .i64 (bl + 1))).frozen 3
          have d3b := (Hm.out.set5 (.int .i64 (bl + 1))).cell3
          go_enter Try.func136, Try.ntmps136
          go_wp2_with (go_at_call 162; refine (l04Step_any 0 HKK.out _).mono ?_; rintro e w9 ⟨rfl, rfl⟩; rw [HSW.out])
          go_wp2_with (go_quiet (fail))
          generalize hWD : World.drewN w _ = WD
          have hbW : Below w.heap.size w WD := by rw [← hWD]; exact bdrewN (Below.refl _ _) _
          have hbWB : Below B w WD := by rw [← hWD]; exact bdrewN (Below.refl _ _) _
          clear hWD
          have hbs' : base ≤ WD.heap.size := Nat.le_trans hbs hbW.size
          have Hm2 := Hm.out.below hbW
          have ow2 := ((HO.out.below hbW).below (bdr (Below.refl _ _))).below (bal (Below.refl _ _) (.cells #[.int .i64 a0, .string l] 128))
          have e1 : WD.drew.cell? ⟨ba, oa + 1, none⟩ = some (.string l) := (hbWB.cell (p := ⟨ba, oa + 1, none⟩) hba).trans hc1
          have hbs2 : base ≤ (WD.drew.alloc (.cells #[.int .i64 a0, .string l] 128)).heap.size := by rw [World.size_alloc]; exact Nat.le_succ_of_le hbs'
          have hnw : ∀ j u, ([.int .i64 a0, .string l] : List Value)[j]? = some u → (WD.drew.alloc (.cells #[.int .i64 a0, .string l] 128)).cell? ((⟨WD.heap.size, 0, none⟩ : Addr).add j) = some u := cells_two_new WD.drew (.int .i64 a0) (.string l) 128
          obtain ⟨v2, w4, hrun, hown2', hg2, _, hat2⟩ := run_append_own_at (P := Try.prog) (w := WD.drew.alloc (.cells #[.int .i64 a0, .string l] 128)) base 61 61 128 i0 _ 2 24 Try.underlying61 hi0 hz hsz hby rfl (by omega) _ _ _ ow2.2 ⟨WD.heap.size, 0, none⟩ 1 1 [.int .i64 a0, .string l] rfl hnw (by simp [Value.oneCell']) (by unfold maxLen; omega) (by omega) hbs2
          have hown2 : Own w4 base 128 encStruck 2 v2 (ls ++ [(a0, l)]) := ⟨fun _ => rfl, by rw [List.flatMap_append, List.length_append]; simpa using hown2'⟩
          clear hown2'
          obtain ⟨A5, n5, c5, rfl⟩ := own_slice hown2
          have Hma := (show At7 WD.drew b 141 (.int .i64 x.1) (.int .i64 x.2.1) (.int .i64 x.2.2) (.int .i64 a0) (.bool true) (.int .i64 bl) (.slice A2 n2 c2) from Hm2).alloc (.cells #[.int .i64 a0, .string l] 128)
          have Hm3 := Hma.grown hg2 HAp.out.ne
          have ap2 := HAp.out.next (by have := Hma.lt; exact this) hat2
          have hb7 := below_own (B := B) ow2 hg2 hB2 (Nat.le_trans hB2 hbs2)
          have hb8 : Below B w w4 := ((hbWB.drew).alloc (Nat.le_trans hB2 hbs') (.cells #[.int .i64 a0, .string l] 128)).trans hb7
          have Hm4 := Hm3.set6 (.slice A5 n5 c5)
          have x0 : WD.drew.cell? ⟨b, 6, none⟩ = some (.slice A2 n2 c2) := Hm2.cell6
          have x1 := Hma.cell6
          have x1' : (WD.alloc (.cells #[.int .i64 a0, .string l] 128)).drew.cell? ⟨b, 6, none⟩ = some (.slice A2 n2 c2) := Hma.cell6
          have x2 := Hm3.cell6
          have x3 := Hm3.frozen 6
          have y0 : WD.drew.cell? ⟨b, 3, none⟩ = some (.int .i64 a0) := Hm2.cell3
          have y1 := Hma.cell3
          have y2 := Hm3.cell3
          have y3 := Hm4.cell3
          have z1 := ((bal (Below.refl _ _) (.cells #[.int .i64 a0, .string l] 128)).cell (p := ⟨ba, oa + 1, none⟩) (by have := Hm2.lt; show ba < WD.heap.size; omega)).trans e1
          have z2 := (hb7.cell (p := ⟨ba, oa + 1, none⟩) hba).trans z1
          have z3 := ((Below.refl B w4).setCell (p := ⟨b, 6, none⟩) hB1 (.slice A5 n5 c5) |>.cell (p := ⟨ba, oa + 1, none⟩) hba).trans z2
          have m2 := Hm4.cell2
          have m5 := Hm4.cell5
          have m3f := Hm4.frozen 3
          have m5f := Hm4.frozen 5
          have m3g := (Hm4.set5 (.int .i64 (bl + 1))).frozen 3
          have m3h := (Hm4.set5 (.int .i64 (bl + 1))).cell3
          have HO2 := Lib.hid hown2
          have HAp2 := Lib.hid ap2
          have HB8 := Lib.hid hb8
          have HM3 := Lib.hid Hm3
          clear Hm2 ow2 Hma Hm3 Hm4 hown2 hb7 hb8 hg2 hat2 hnw hbW hbWB ap2
          go_wp2_with fail
          refine wp_region_held_drew (S := fun w' => w'.cell? ⟨b, 3, none⟩ = some (.int .i64 a0) ∧ w'.cell? ⟨ba, oa + 1, none⟩ = some (.string l)) (by kernel_rfl) ⟨y0, e1⟩ (fun hHeld => ?_)
          refine wpAnyH_take (i := 0) (v := ?_) rfl (by kernel_rfl) (by kernel_rfl) (by kernel_rfl) (fun _ _ _ h => h) (Or.inl ⟨by rfl, ?_⟩) (by assumption) ?_
          rotate_left
          · (intro w hSw; (try dsimp only at hSw); go_simp; try with_reducible rfl)
          try simp only [Act.put, List.getElem_toArray, List.getElem_cons_zero, List.getElem_cons_succ, List.setIfInBounds_toArray, List.set_cons_zero, List.set_cons_succ]
          refine wpAnyH_take (i := 1) (v := ?_) rfl (by kernel_rfl) (by kernel_rfl) (by kernel_rfl) (fun _ _ _ h => h) (Or.inl ⟨by rfl, ?_⟩) (by assumption) ?_
          rotate_left
          · (intro w hSw; (try dsimp only at hSw); go_simp; try with_reducible rfl)
          try simp only [Act.put, List.getElem_toArray, List.getElem_cons_zero, List.getElem_cons_succ, List.setIfInBounds_toArray, List.set_cons_zero, List.set_cons_succ]
          refine wpAnyH_take (i := 2) (v := ?_) rfl (by kernel_rfl) (by kernel_rfl) (by kernel_rfl) (fun _ _ _ h => h) (Or.inl ⟨by rfl, ?_⟩) (by assumption) ?_
          rotate_left
          · (intro w hSw; (try dsimp only at hSw); go_simp; try with_reducible rfl)
          try simp only [Act.put, List.getElem_toArray, List.getElem_cons_zero, List.getElem_cons_succ, List.setIfInBounds_toArray, List.set_cons_zero, List.set_cons_succ]
          refine wpAnyH_take (i := 3) (v := ?_) rfl (by kernel_rfl) (by kernel_rfl) (by kernel_rfl) (fun _ _ _ h => h) (Or.inl ⟨by rfl, ?_⟩) (by assumption) ?_
          rotate_left
          · (intro w hSw; (try dsimp only at hSw); go_simp; try with_reducible rfl)
          try simp only [Act.put, List.getElem_toArray, List.getElem_cons_zero, List.getElem_cons_succ, List.setIfInBounds_toArray, List.set_cons_zero, List.set_cons_succ]
          refine wpAnyH_take (i := 5) (v := ?_) rfl (by kernel_rfl) (by kernel_rfl) (by kernel_rfl) (fun _ _ _ h => h) (Or.inl ⟨by rfl, ?_⟩) (by assumption) ?_
          rotate_left
          · (intro w hSw; (try dsimp only at hSw); go_simp; try with_reducible rfl)
          try simp only [Act.put, List.getElem_toArray, List.getElem_cons_zero, List.getElem_cons_succ, List.setIfInBounds_toArray, List.set_cons_zero, List.set_cons_succ]
          refine wpAnyH_take (i := 6) (v := ?_) rfl (by kernel_rfl) (by kernel_rfl) (by kernel_rfl) (fun _ _ _ h => h) (Or.inl ⟨by rfl, ?_⟩) (by assumption) ?_
          rotate_left
          · (intro w hSw; (try dsimp only at hSw); go_simp; try with_reducible rfl)
          try simp only [Act.put, List.getElem_toArray, List.getElem_cons_zero, List.getElem_cons_succ, List.setIfInBounds_toArray, List.set_cons_zero, List.set_cons_succ]
          refine wpAnyH_take (i := 7) (v := ?_) rfl (by kernel_rfl) (by kernel_rfl) (by kernel_rfl) (fun _ _ _ h => h) (Or.inl ⟨by rfl, ?_⟩) (by assumption) ?_
          rotate_left
          · (intro w hSw; (try dsimp only at hSw); go_simp; try with_reducible rfl)
          try simp only [Act.put, List.getElem_toArray, List.getElem_cons_zero, List.getElem_cons_succ, List.setIfInBounds_toArray, List.set_cons_zero, List.set_cons_succ]
          refine wpAnyH_take (i := 8) (v := ?_) rfl (by kernel_rfl) (by kernel_rfl) (by kernel_rfl) (fun _ _ _ h => h) (Or.inl ⟨by rfl, ?_⟩) (by assumption) ?_
          rotate_left
          · (intro w hSw; (try dsimp only at hSw); go_simp; try with_reducible rfl)
          try simp only [Act.put, List.getElem_toArray, List.getElem_cons_zero, List.getElem_cons_succ, List.setIfInBounds_toArray, List.set_cons_zero, List.set_cons_succ]
          refine wpAnyH_take (i := 9) (v := ?_) rfl (by kernel_rfl) (by kernel_rfl) (by kernel_rfl) (fun _ _ _ h => h) (Or.inl ⟨by rfl, ?_⟩) (by assumption) ?_
          rotate_left
          · (intro w hSw; (try dsimp only at hSw); go_simp; try with_reducible rfl)
          try simp only [Act.put, List.getElem_toArray, List.getElem_cons_zero, List.getElem_cons_succ, List.setIfInBounds_toArray, List.set_cons_zero, List.set_cons_succ]
          refine wpAnyH_take (i := 10) (v := ?_) rfl (by kernel_rfl) (by kernel_rfl) (by kernel_rfl) (fun _ _ _ h => h) (Or.inl ⟨by rfl, ?_⟩) (by assumption) ?_
          rotate_left
          · (intro w hSw; (try dsimp only at hSw); go_simp; try with_reducible rfl)
          try simp only [Act.put, List.getElem_toArray, List.getElem_cons_zero, List.getElem_cons_succ, List.setIfInBounds_toArray, List.set_cons_zero, List.set_cons_succ]
          refine wpAnyH_take (i := 11) (v := ?_) rfl (by kernel_rfl) (by kernel_rfl) (by kernel_rfl) (fun _ _ _ h => h) (Or.inl ⟨by rfl, ?_⟩) (by assumption) ?_
          rotate_left
          · (intro w hSw; (try dsimp only at hSw); go_simp; try with_reducible rfl)
          try simp only [Act.put, List.getElem_toArray, List.getElem_cons_zero, List.getElem_cons_succ, List.setIfInBounds_toArray, List.set_cons_zero, List.set_cons_succ]
          refine wpAnyH_take (i := 12) (v := ?_) rfl (by kernel_rfl) (by kernel_rfl) (by kernel_rfl) (fun _ _ _ h => h) (Or.inl ⟨by rfl, ?_⟩) (by assumption) ?_
          rotate_left
          · (intro w hSw; (try dsimp only at hSw); go_simp; try with_reducible rfl)
          try simp only [Act.put, List.getElem_toArray, List.getElem_cons_zero, List.getElem_cons_succ, List.setIfInBounds_toArray, List.set_cons_zero, List.set_cons_succ]
          refine wpAnyH_take (i := 13) (v := ?_) rfl (by kernel_rfl) (by kernel_rfl) (by kernel_rfl) (fun _ _ _ h => h) (Or.inl ⟨by rfl, ?_⟩) (by assumption) ?_
          rotate_left
          · (intro w hSw; (try dsimp only at hSw); go_simp; try with_reducible rfl)
          try simp only [Act.put, List.getElem_toArray, List.getElem_cons_zero, List.getElem_cons_succ, List.setIfInBounds_toArray, List.set_cons_zero, List.set_cons_succ]
          refine wpAnyH_ready (rs := [4, 14]) (by kernel_rfl) (by simp) ?_
          refine AllReadyH.cons rfl (fun K hK => ?_) (AllReadyH.cons rfl (fun K hK => ?_) AllReadyH.nil)
          · go_simp
            refine hK.out _ _ ⟨y0, e1⟩ (fun hHeld => ?_)
            clear hK K
            try simp only [Act.put, List.getElem_toArray, List.getElem_cons_zero, List.getElem_cons_succ, List.setIfInBounds_toArray, List.set_cons_zero, List.set_cons_succ]
            refine wpAnyH_ready (rs := [14]) (by kernel_rfl) (by simp) ?_
            refine AllReadyH.cons rfl (fun K hK => ?_) AllReadyH.nil
            go_simp
            refine hK.out _ _ ⟨y1, z1⟩ (fun hHeld => ?_)
            clear hK K
            try simp only [Act.put, List.getElem_toArray, List.getElem_cons_zero, List.getElem_cons_succ, List.setIfInBounds_toArray, List.set_cons_zero, List.set_cons_succ]
            refine wpAnyH_ready (rs := [15]) (by kernel_rfl) (by simp) ?_
            refine AllReadyH.cons rfl (fun K hK => ?_) AllReadyH.nil
            rw [if_pos (by rfl)]
            refine append_wp _ _ _ rfl _ _ _ rfl rfl hrun ?_
            refine hK.out _ _ ⟨y2, z2⟩ (fun hHeld => ?_)
            clear hK K
            try simp only [Act.put, List.getElem_toArray, List.getElem_cons_zero, List.getElem_cons_succ, List.setIfInBounds_toArray, List.set_cons_zero, List.set_cons_succ]
            refine wpAnyH_take (i := 16) (v := ?_) rfl (by kernel_rfl) (by kernel_rfl) (by kernel_rfl) (fun _ _ _ h => h) (Or.inl ⟨by rfl, ?_⟩) (by assumption) ?_
            rotate_left
            · (intro w hSw; (try dsimp only at hSw); go_simp; try with_reducible rfl)
            try simp only [Act.put, List.getElem_toArray, List.getElem_cons_zero, List.getElem_cons_succ, List.setIfInBounds_toArray, List.set_cons_zero, List.set_cons_succ]
            refine wpAnyH_take (i := 17) (v := ?_) rfl (by kernel_rfl) (by kernel_rfl) (by kernel_rfl) (fun _ _ _ h => h) (Or.inl ⟨by rfl, ?_⟩) (by assumption) ?_
            rotate_left
            · (intro w hSw; (try dsimp only at hSw); go_simp; try with_reducible rfl)
            try simp only [Act.put, List.getElem_toArray, List.getElem_cons_zero, List.getElem_cons_succ, List.setIfInBounds_toArray, List.set_cons_zero, List.set_cons_succ]
            refine wpAnyH_ready (rs := [18]) (by kernel_rfl) (by simp) ?_
            refine AllReadyH.cons rfl (fun K hK => ?_) AllReadyH.nil
            go_simp
            refine hK.out _ _ ⟨y3, z3⟩ (fun hHeld => ?_)
            clear hK K
            try simp only [Act.put, List.getElem_toArray, List.getElem_cons_zero, List.getElem_cons_succ, List.setIfInBounds_toArray, List.set_cons_zero, List.set_cons_succ]
            refine wpAnyH_done (by kernel_rfl) ?_ _
            go_wp2_with (go_quiet (fail))
            go_wp2_with (go_quiet (fail))
            go_ret
            exact ⟨⟨a0 + 2, true, bl + 1, ls ++ [(a0, l)]⟩, (.slice A5 n5 c5), by rw [HT.out]; rfl, by rw [HT.out]; rfl, (((HM3.out.set6 ((.slice A5 n5 c5))).set5 (.int .i64 (bl + 1))).set3 (.int .i64 (a0 + 2))), ((((HO2.out.kept (grown_cs _ b 6 (.slice A5 n5 c5)) HAp2.out.or).below (bdrewN (Below.refl _ _) _)).kept (grown_cs _ b 5 (.int .i64 (bl + 1))) HAp2.out.or).kept (grown_cs _ b 3 (.int .i64 (a0 + 2))) HAp2.out.or), HAp2.out, (((bdrewN (HB8.out.setCell (p := ⟨b, 6, none⟩) hB1 ((.slice A5 n5 c5))) _).setCell (p := ⟨b, 5, none⟩) hB1 (.int .i64 (bl + 1))).setCell (p := ⟨b, 3, none⟩) hB1 (.int .i64 (a0 + 2)))⟩
          · go_simp
            refine hK.out _ _ ⟨y1, z1⟩ (fun hHeld => ?_)
            clear hK K
            try simp only [Act.put, List.getElem_toArray, List.getElem_cons_zero, List.getElem_cons_succ, List.setIfInBounds_toArray, List.set_cons_zero, List.set_cons_succ]
            refine wpAnyH_ready (rs := [4]) (by kernel_rfl) (by simp) ?_
            refine AllReadyH.cons rfl (fun K hK => ?_) AllReadyH.nil
            go_simp
            refine hK.out _ _ ⟨y1, z1⟩ (fun hHeld => ?_)
            clear hK K
            try simp only [Act.put, List.getElem_toArray, List.getElem_cons_zero, List.getElem_cons_succ, List.setIfInBounds_toArray, List.set_cons_zero, List.set_cons_succ]
            refine wpAnyH_ready (rs := [15]) (by kernel_rfl) (by simp) ?_
            refine AllReadyH.cons rfl (fun K hK => ?_) AllReadyH.nil
            rw [if_pos (by rfl)]
            refine append_wp _ _ _ rfl _ _ _ rfl rfl hrun ?_
            refine hK.out _ _ ⟨y2, z2⟩ (fun hHeld => ?_)
            clear hK K
            try simp only [Act.put, List.getElem_toArray, List.getElem_cons_zero, List.getElem_cons_succ, List.setIfInBounds_toArray, List.set_cons_zero, List.set_cons_succ]
            refine wpAnyH_take (i := 16) (v := ?_) rfl (by kernel_rfl) (by kernel_rfl) (by kernel_rfl) (fun _ _ _ h => h) (Or.inl ⟨by rfl, ?_⟩) (by assumption) ?_
            rotate_left
            · (intro w hSw; (try dsimp only at hSw); go_simp; try with_reducible rfl)
            try simp only [Act.put, List.getElem_toArray, List.getElem_cons_zero, List.getElem_cons_succ, List.setIfInBounds_toArray, List.set_cons_zero, List.set_cons_succ]
            refine wpAnyH_take (i := 17) (v := ?_) rfl (by kernel_rfl) (by kernel_rfl) (by kernel_rfl) (fun _ _ _ h => h) (Or.inl ⟨by rfl, ?_⟩) (by assumption) ?_
            rotate_left
            · (intro w hSw; (try dsimp only at hSw); go_simp; try with_reducible rfl)
            try simp only [Act.put, List.getElem_toArray, List.getElem_cons_zero, List.getElem_cons_succ, List.setIfInBounds_toArray, List.set_cons_zero, List.set_cons_succ]
            refine wpAnyH_ready (rs := [18]) (by kernel_rfl) (by simp) ?_
            refine AllReadyH.cons rfl (fun K hK => ?_) AllReadyH.nil
            go_simp
            refine hK.out _ _ ⟨y3, z3⟩ (fun hHeld => ?_)
            clear hK K
            try simp only [Act.put, List.getElem_toArray, List.getElem_cons_zero, List.getElem_cons_succ, List.setIfInBounds_toArray, List.set_cons_zero, List.set_cons_succ]
            refine wpAnyH_done (by kernel_rfl) ?_ _
            go_wp2_with (go_quiet (fail))
            go_wp2_with (go_quiet (fail))
            go_ret
            exact ⟨⟨a0 + 2, true, bl + 1, ls ++ [(a0, l)]⟩, (.slice A5 n5 c5), by rw [HT.out]; rfl, by rw [HT.out]; rfl, (((HM3.out.set6 ((.slice A5 n5 c5))).set5 (.int .i64 (bl + 1))).set3 (.int .i64 (a0 + 2))), ((((HO2.out.kept (grown_cs _ b 6 (.slice A5 n5 c5)) HAp2.out.or).below (bdrewN (Below.refl _ _) _)).kept (grown_cs _ b 5 (.int .i64 (bl + 1))) HAp2.out.or).kept (grown_cs _ b 3 (.int .i64 (a0 + 2))) HAp2.out.or), HAp2.out, (((bdrewN (HB8.out.setCell (p := ⟨b, 6, none⟩) hB1 ((.slice A5 n5 c5))) _).setCell (p := ⟨b, 5, none⟩) hB1 (.int .i64 (bl + 1))).setCell (p := ⟨b, 3, none⟩) hB1 (.int .i64 (a0 + 2)))⟩
    · have hns : ¬ tyStop x ⟨a0, true, bl, ls⟩ 2 := by unfold tyStop; dsimp only; have := HQ.out; simp; omega
      have hle : a0 + 2 ≤ 300 := by have := HQ.out; omega
      have HLe := Lib.hid hle
      have hT := tyStep_move (c := x) (a := (0, l)) (s := (⟨a0, true, bl, ls⟩ : TySt)) (d := 2) HSW.out (by decide) hns
      unfold tyMove at hT
      dsimp only at hT
      rw [if_pos rfl] at hT
      have t1 : decide (x.2.1 < a0 + 2) = false := decide_eq_false h1
      have t3 : decide (300 < a0 + 2) = false := decide_eq_false (by omega)
      clear hns h1 hle
      rcases ff2 (a0 < x.2.2) (x.2.2 ≤ a0 + 2) with h | ⟨h, h2⟩ | ⟨h, h2⟩
      · have t4 : decide (a0 < x.2.2) = false := decide_eq_false h
        rw [if_neg (fun q => h q.1)] at hT
        have HT := Lib.hid hT
        clear hT h
        clear p1 p2 p3 p4 p5 hm hown hap
        go_enter Try.func136, Try.ntmps136
        go_wp2_with (go_at_call 162; refine (l04Step_any 0 HKK.out _).mono ?_; rintro e w9 ⟨rfl, rfl⟩; rw [HSW.out])
        go_wp2_with (go_quiet (fail))
        generalize hWD : World.drewN w _ = WD
        have hbW : Below w.heap.size w WD := by rw [← hWD]; exact bdrewN (Below.refl _ _) _
        have hbWB : Below B w WD := by rw [← hWD]; exact bdrewN (Below.refl _ _) _
        clear hWD
        have hbs' : base ≤ WD.heap.size := Nat.le_trans hbs hbW.size
        have Hm2 := Hm.out.below hbW
        have ow2 := ((HO.out.below hbW).below (bdr (Below.refl _ _))).below (bal (Below.refl _ _) (.cells #[.int .i64 a0, .string l] 128))
        have e1 : WD.drew.cell? ⟨ba, oa + 1, none⟩ = some (.string l) := (hbWB.cell (p := ⟨ba, oa + 1, none⟩) hba).trans hc1
        have hbs2 : base ≤ (WD.drew.alloc (.cells #[.int .i64 a0, .string l] 128)).heap.size := by rw [World.size_alloc]; exact Nat.le_succ_of_le hbs'
        have hnw : ∀ j u, ([.int .i64 a0, .string l] : List Value)[j]? = some u → (WD.drew.alloc (.cells #[.int .i64 a0, .string l] 128)).cell? ((⟨WD.heap.size, 0, none⟩ : Addr).add j) = some u := cells_two_new WD.drew (.int .i64 a0) (.string l) 128
        obtain ⟨v2, w4, hrun, hown2', hg2, _, hat2⟩ := run_append_own_at (P := Try.prog) (w := WD.drew.alloc (.cells #[.int .i64 a0, .string l] 128)) base 61 61 128 i0 _ 2 24 Try.underlying61 hi0 hz hsz hby rfl (by omega) _ _ _ ow2.2 ⟨WD.heap.size, 0, none⟩ 1 1 [.int .i64 a0, .string l] rfl hnw (by simp [Value.oneCell']) (by unfold maxLen; omega) (by omega) hbs2
        have hown2 : Own w4 base 128 encStruck 2 v2 (ls ++ [(a0, l)]) := ⟨fun _ => rfl, by rw [List.flatMap_append, List.length_append]; simpa using hown2'⟩
        clear hown2'
        obtain ⟨A5, n5, c5, rfl⟩ := own_slice hown2
        have Hma := (show At7 WD.drew b 141 (.int .i64 x.1) (.int .i64 x.2.1) (.int .i64 x.2.2) (.int .i64 a0) (.bool true) (.int .i64 bl) (.slice A2 n2 c2) from Hm2).alloc (.cells #[.int .i64 a0, .string l] 128)
        have Hm3 := Hma.grown hg2 HAp.out.ne
        have ap2 := HAp.out.next (by have := Hma.lt; exact this) hat2
        have hb7 := below_own (B := B) ow2 hg2 hB2 (Nat.le_trans hB2 hbs2)
        have hb8 : Below B w w4 := ((hbWB.drew).alloc (Nat.le_trans hB2 hbs') (.cells #[.int .i64 a0, .string l] 128)).trans hb7
        have Hm4 := Hm3.set6 (.slice A5 n5 c5)
        have x0 : WD.drew.cell? ⟨b, 6, none⟩ = some (.slice A2 n2 c2) := Hm2.cell6
        have x1 := Hma.cell6
        have x1' : (WD.alloc (.cells #[.int .i64 a0, .string l] 128)).drew.cell? ⟨b, 6, none⟩ = some (.slice A2 n2 c2) := Hma.cell6
        have x2 := Hm3.cell6
        have x3 := Hm3.frozen 6
        have y0 : WD.drew.cell? ⟨b, 3, none⟩ = some (.int .i64 a0) := Hm2.cell3
        have y1 := Hma.cell3
        have y2 := Hm3.cell3
        have y3 := Hm4.cell3
        have z1 := ((bal (Below.refl _ _) (.cells #[.int .i64 a0, .string l] 128)).cell (p := ⟨ba, oa + 1, none⟩) (by have := Hm2.lt; show ba < WD.heap.size; omega)).trans e1
        have z2 := (hb7.cell (p := ⟨ba, oa + 1, none⟩) hba).trans z1
        have z3 := ((Below.refl B w4).setCell (p := ⟨b, 6, none⟩) hB1 (.slice A5 n5 c5) |>.cell (p := ⟨ba, oa + 1, none⟩) hba).trans z2
        have m2 := Hm4.cell2
        have m5 := Hm4.cell5
        have m3f := Hm4.frozen 3
        have m5f := Hm4.frozen 5
        have m3g := (Hm4.set5 (.int .i64 (bl + 1))).frozen 3
        have m3h := (Hm4.set5 (.int .i64 (bl + 1))).cell3
        have HO2 := Lib.hid hown2
        have HAp2 := Lib.hid ap2
        have HB8 := Lib.hid hb8
        have HM3 := Lib.hid Hm3
        clear Hm2 ow2 Hma Hm3 Hm4 hown2 hb7 hb8 hg2 hat2 hnw hbW hbWB ap2
        go_wp2_with fail
        refine wp_region_held_drew (S := fun w' => w'.cell? ⟨b, 3, none⟩ = some (.int .i64 a0) ∧ w'.cell? ⟨ba, oa + 1, none⟩ = some (.string l)) (by kernel_rfl) ⟨y0, e1⟩ (fun hHeld => ?_)
        refine wpAnyH_take (i := 0) (v := ?_) rfl (by kernel_rfl) (by kernel_rfl) (by kernel_rfl) (fun _ _ _ h => h) (Or.inl ⟨by rfl, ?_⟩) (by assumption) ?_
        rotate_left
        · (intro w hSw; (try dsimp only at hSw); go_simp; try with_reducible rfl)
        try simp only [Act.put, List.getElem_toArray, List.getElem_cons_zero, List.getElem_cons_succ, List.setIfInBounds_toArray, List.set_cons_zero, List.set_cons_succ]
        refine wpAnyH_take (i := 1) (v := ?_) rfl (by kernel_rfl) (by kernel_rfl) (by kernel_rfl) (fun _ _ _ h => h) (Or.inl ⟨by rfl, ?_⟩) (by assumption) ?_
        rotate_left
        · (intro w hSw; (try dsimp only at hSw); go_simp; try with_reducible rfl)
        try simp only [Act.put, List.getElem_toArray, List.getElem_cons_zero, List.getElem_cons_succ, List.setIfInBounds_toArray, List.set_cons_zero, List.set_cons_succ]
        refine wpAnyH_take (i := 2) (v := ?_) rfl (by kernel_rfl) (by kernel_rfl) (by kernel_rfl) (fun _ _ _ h => h) (Or.inl ⟨by rfl, ?_⟩) (by assumption) ?_
        rotate_left
        · (intro w hSw; (try dsimp only at hSw); go_simp; try with_reducible rfl)
        try simp only [Act.put, List.getElem_toArray, List.getElem_cons_zero, List.getElem_cons_succ, List.setIfInBounds_toArray, List.set_cons_zero, List.set_cons_succ]
        refine wpAnyH_take (i := 3) (v := ?_) rfl (by kernel_rfl) (by kernel_rfl) (by kernel_rfl) (fun _ _ _ h => h) (Or.inl ⟨by rfl, ?_⟩) (by assumption) ?_
        rotate_left
        · (intro w hSw; (try dsimp only at hSw); go_simp; try with_reducible rfl)
        try simp only [Act.put, List.getElem_toArray, List.getElem_cons_zero, List.getElem_cons_succ, List.setIfInBounds_toArray, List.set_cons_zero, List.set_cons_succ]
        refine wpAnyH_take (i := 5) (v := ?_) rfl (by kernel_rfl) (by kernel_rfl) (by kernel_rfl) (fun _ _ _ h => h) (Or.inl ⟨by rfl, ?_⟩) (by assumption) ?_
        rotate_left
        · (intro w hSw; (try dsimp only at hSw); go_simp; try with_reducible rfl)
        try simp only [Act.put, List.getElem_toArray, List.getElem_cons_zero, List.getElem_cons_succ, List.setIfInBounds_toArray, List.set_cons_zero, List.set_cons_succ]
        refine wpAnyH_take (i := 6) (v := ?_) rfl (by kernel_rfl) (by kernel_rfl) (by kernel_rfl) (fun _ _ _ h => h) (Or.inl ⟨by rfl, ?_⟩) (by assumption) ?_
        rotate_left
        · (intro w hSw; (try dsimp only at hSw); go_simp; try with_reducible rfl)
        try simp only [Act.put, List.getElem_toArray, List.getElem_cons_zero, List.getElem_cons_succ, List.setIfInBounds_toArray, List.set_cons_zero, List.set_cons_succ]
        refine wpAnyH_take (i := 7) (v := ?_) rfl (by kernel_rfl) (by kernel_rfl) (by kernel_rfl) (fun _ _ _ h => h) (Or.inl ⟨by rfl, ?_⟩) (by assumption) ?_
        rotate_left
        · (intro w hSw; (try dsimp only at hSw); go_simp; try with_reducible rfl)
        try simp only [Act.put, List.getElem_toArray, List.getElem_cons_zero, List.getElem_cons_succ, List.setIfInBounds_toArray, List.set_cons_zero, List.set_cons_succ]
        refine wpAnyH_take (i := 8) (v := ?_) rfl (by kernel_rfl) (by kernel_rfl) (by kernel_rfl) (fun _ _ _ h => h) (Or.inl ⟨by rfl, ?_⟩) (by assumption) ?_
        rotate_left
        · (intro w hSw; (try dsimp only at hSw); go_simp; try with_reducible rfl)
        try simp only [Act.put, List.getElem_toArray, List.getElem_cons_zero, List.getElem_cons_succ, List.setIfInBounds_toArray, List.set_cons_zero, List.set_cons_succ]
        refine wpAnyH_take (i := 9) (v := ?_) rfl (by kernel_rfl) (by kernel_rfl) (by kernel_rfl) (fun _ _ _ h => h) (Or.inl ⟨by rfl, ?_⟩) (by assumption) ?_
        rotate_left
        · (intro w hSw; (try dsimp only at hSw); go_simp; try with_reducible rfl)
        try simp only [Act.put, List.getElem_toArray, List.getElem_cons_zero, List.getElem_cons_succ, List.setIfInBounds_toArray, List.set_cons_zero, List.set_cons_succ]
        refine wpAnyH_take (i := 10) (v := ?_) rfl (by kernel_rfl) (by kernel_rfl) (by kernel_rfl) (fun _ _ _ h => h) (Or.inl ⟨by rfl, ?_⟩) (by assumption) ?_
        rotate_left
        · (intro w hSw; (try dsimp only at hSw); go_simp; try with_reducible rfl)
        try simp only [Act.put, List.getElem_toArray, List.getElem_cons_zero, List.getElem_cons_succ, List.setIfInBounds_toArray, List.set_cons_zero, List.set_cons_succ]
        refine wpAnyH_take (i := 11) (v := ?_) rfl (by kernel_rfl) (by kernel_rfl) (by kernel_rfl) (fun _ _ _ h => h) (Or.inl ⟨by rfl, ?_⟩) (by assumption) ?_
        rotate_left
        · (intro w hSw; (try dsimp only at hSw); go_simp; try with_reducible rfl)
        try simp only [Act.put, List.getElem_toArray, List.getElem_cons_zero, List.getElem_cons_succ, List.setIfInBounds_toArray, List.set_cons_zero, List.set_cons_succ]
        refine wpAnyH_take (i := 12) (v := ?_) rfl (by kernel_rfl) (by kernel_rfl) (by kernel_rfl) (fun _ _ _ h => h) (Or.inl ⟨by rfl, ?_⟩) (by assumption) ?_
        rotate_left
        · (intro w hSw; (try dsimp only at hSw); go_simp; try with_reducible rfl)
        try simp only [Act.put, List.getElem_toArray, List.getElem_cons_zero, List.getElem_cons_succ, List.setIfInBounds_toArray, List.set_cons_zero, List.set_cons_succ]
        refine wpAnyH_take (i := 13) (v := ?_) rfl (by kernel_rfl) (by kernel_rfl) (by kernel_rfl) (fun _ _ _ h => h) (Or.inl ⟨by rfl, ?_⟩) (by assumption) ?_
        rotate_left
        · (intro w hSw; (try dsimp only at hSw); go_simp; try with_reducible rfl)
        try simp only [Act.put, List.getElem_toArray, List.getElem_cons_zero, List.getElem_cons_succ, List.setIfInBounds_toArray, List.set_cons_zero, List.set_cons_succ]
        refine wpAnyH_ready (rs := [4, 14]) (by kernel_rfl) (by simp) ?_
        refine AllReadyH.cons rfl (fun K hK => ?_) (AllReadyH.cons rfl (fun K hK => ?_) AllReadyH.nil)
        · go_simp
          refine hK.out _ _ ⟨y0, e1⟩ (fun hHeld => ?_)
          clear hK K
          try simp only [Act.put, List.getElem_toArray, List.getElem_cons_zero, List.getElem_cons_succ, List.setIfInBounds_toArray, List.set_cons_zero, List.set_cons_succ]
          refine wpAnyH_ready (rs := [14]) (by kernel_rfl) (by simp) ?_
          refine AllReadyH.cons rfl (fun K hK => ?_) AllReadyH.nil
          go_simp
          refine hK.out _ _ ⟨y1, z1⟩ (fun hHeld => ?_)
          clear hK K
          try simp only [Act.put, List.getElem_toArray, List.getElem_cons_zero, List.getElem_cons_succ, List.setIfInBounds_toArray, List.set_cons_zero, List.set_cons_succ]
          refine wpAnyH_ready (rs := [15]) (by kernel_rfl) (by simp) ?_
          refine AllReadyH.cons rfl (fun K hK => ?_) AllReadyH.nil
          rw [if_pos (by rfl)]
          refine append_wp _ _ _ rfl _ _ _ rfl rfl hrun ?_
          refine hK.out _ _ ⟨y2, z2⟩ (fun hHeld => ?_)
          clear hK K
          try simp only [Act.put, List.getElem_toArray, List.getElem_cons_zero, List.getElem_cons_succ, List.setIfInBounds_toArray, List.set_cons_zero, List.set_cons_succ]
          refine wpAnyH_take (i := 16) (v := ?_) rfl (by kernel_rfl) (by kernel_rfl) (by kernel_rfl) (fun _ _ _ h => h) (Or.inl ⟨by rfl, ?_⟩) (by assumption) ?_
          rotate_left
          · (intro w hSw; (try dsimp only at hSw); go_simp; try with_reducible rfl)
          try simp only [Act.put, List.getElem_toArray, List.getElem_cons_zero, List.getElem_cons_succ, List.setIfInBounds_toArray, List.set_cons_zero, List.set_cons_succ]
          refine wpAnyH_take (i := 17) (v := ?_) rfl (by kernel_rfl) (by kernel_rfl) (by kernel_rfl) (fun _ _ _ h => h) (Or.inl ⟨by rfl, ?_⟩) (by assumption) ?_
          rotate_left
          · (intro w hSw; (try dsimp only at hSw); go_simp; try with_reducible rfl)
          try simp only [Act.put, List.getElem_toArray, List.getElem_cons_zero, List.getElem_cons_succ, List.setIfInBounds_toArray, List.set_cons_zero, List.set_cons_succ]
          refine wpAnyH_ready (rs := [18]) (by kernel_rfl) (by simp) ?_
          refine AllReadyH.cons rfl (fun K hK => ?_) AllReadyH.nil
          go_simp
          refine hK.out _ _ ⟨y3, z3⟩ (fun hHeld => ?_)
          clear hK K
          try simp only [Act.put, List.getElem_toArray, List.getElem_cons_zero, List.getElem_cons_succ, List.setIfInBounds_toArray, List.set_cons_zero, List.set_cons_succ]
          refine wpAnyH_done (by kernel_rfl) ?_ _
          go_wp2_with (go_quiet (fail))
          go_wp2_with (go_quiet (fail))
          go_ret
          exact ⟨⟨a0 + 2, true, bl, ls ++ [(a0, l)]⟩, (.slice A5 n5 c5), by rw [HT.out]; rfl, by rw [HT.out]; rfl, ((HM3.out.set6 ((.slice A5 n5 c5))).set3 (.int .i64 (a0 + 2))), (((HO2.out.kept (grown_cs _ b 6 (.slice A5 n5 c5)) HAp2.out.or).below (bdrewN (Below.refl _ _) _)).kept (grown_cs _ b 3 (.int .i64 (a0 + 2))) HAp2.out.or), HAp2.out, ((bdrewN (HB8.out.setCell (p := ⟨b, 6, none⟩) hB1 ((.slice A5 n5 c5))) _).setCell (p := ⟨b, 3, none⟩) hB1 (.int .i64 (a0 + 2)))⟩
        · go_simp
          refine hK.out _ _ ⟨y1, z1⟩ (fun hHeld => ?_)
          clear hK K
          try simp only [Act.put, List.getElem_toArray, List.getElem_cons_zero, List.getElem_cons_succ, List.setIfInBounds_toArray, List.set_cons_zero, List.set_cons_succ]
          refine wpAnyH_ready (rs := [4]) (by kernel_rfl) (by simp) ?_
          refine AllReadyH.cons rfl (fun K hK => ?_) AllReadyH.nil
          go_simp
          refine hK.out _ _ ⟨y1, z1⟩ (fun hHeld => ?_)
          clear hK K
          try simp only [Act.put, List.getElem_toArray, List.getElem_cons_zero, List.getElem_cons_succ, List.setIfInBounds_toArray, List.set_cons_zero, List.set_cons_succ]
          refine wpAnyH_ready (rs := [15]) (by kernel_rfl) (by simp) ?_
          refine AllReadyH.cons rfl (fun K hK => ?_) AllReadyH.nil
          rw [if_pos (by rfl)]
          refine append_wp _ _ _ rfl _ _ _ rfl rfl hrun ?_
          refine hK.out _ _ ⟨y2, z2⟩ (fun hHeld => ?_)
          clear hK K
          try simp only [Act.put, List.getElem_toArray, List.getElem_cons_zero, List.getElem_cons_succ, List.setIfInBounds_toArray, List.set_cons_zero, List.set_cons_succ]
          refine wpAnyH_take (i := 16) (v := ?_) rfl (by kernel_rfl) (by kernel_rfl) (by kernel_rfl) (fun _ _ _ h => h) (Or.inl ⟨by rfl, ?_⟩) (by assumption) ?_
          rotate_left
          · (intro w hSw; (try dsimp only at hSw); go_simp; try with_reducible rfl)
          try simp only [Act.put, List.getElem_toArray, List.getElem_cons_zero, List.getElem_cons_succ, List.setIfInBounds_toArray, List.set_cons_zero, List.set_cons_succ]
          refine wpAnyH_take (i := 17) (v := ?_) rfl (by kernel_rfl) (by kernel_rfl) (by kernel_rfl) (fun _ _ _ h => h) (Or.inl ⟨by rfl, ?_⟩) (by assumption) ?_
          rotate_left
          · (intro w hSw; (try dsimp only at hSw); go_simp; try with_reducible rfl)
          try simp only [Act.put, List.getElem_toArray, List.getElem_cons_zero, List.getElem_cons_succ, List.setIfInBounds_toArray, List.set_cons_zero, List.set_cons_succ]
          refine wpAnyH_ready (rs := [18]) (by kernel_rfl) (by simp) ?_
          refine AllReadyH.cons rfl (fun K hK => ?_) AllReadyH.nil
          go_simp
          refine hK.out _ _ ⟨y3, z3⟩ (fun hHeld => ?_)
          clear hK K
          try simp only [Act.put, List.getElem_toArray, List.getElem_cons_zero, List.getElem_cons_succ, List.setIfInBounds_toArray, List.set_cons_zero, List.set_cons_succ]
          refine wpAnyH_done (by kernel_rfl) ?_ _
          go_wp2_with (go_quiet (fail))
          go_wp2_with (go_quiet (fail))
          go_ret
          exact ⟨⟨a0 + 2, true, bl, ls ++ [(a0, l)]⟩, (.slice A5 n5 c5), by rw [HT.out]; rfl, by rw [HT.out]; rfl, ((HM3.out.set6 ((.slice A5 n5 c5))).set3 (.int .i64 (a0 + 2))), (((HO2.out.kept (grown_cs _ b 6 (.slice A5 n5 c5)) HAp2.out.or).below (bdrewN (Below.refl _ _) _)).kept (grown_cs _ b 3 (.int .i64 (a0 + 2))) HAp2.out.or), HAp2.out, ((bdrewN (HB8.out.setCell (p := ⟨b, 6, none⟩) hB1 ((.slice A5 n5 c5))) _).setCell (p := ⟨b, 3, none⟩) hB1 (.int .i64 (a0 + 2)))⟩
      · have t4 : decide (a0 < x.2.2) = true := decide_eq_true h
        have t5 : decide (x.2.2 ≤ a0 + 2) = false := decide_eq_false h2
        rw [if_neg (fun q => h2 q.2)] at hT
        have HT := Lib.hid hT
        clear hT h h2
        clear p1 p2 p3 p4 p5 hm hown hap
        go_enter Try.func136, Try.ntmps136
        go_wp2_with (go_at_call 162; refine (l04Step_any 0 HKK.out _).mono ?_; rintro e w9 ⟨rfl, rfl⟩; rw [HSW.out])
        go_wp2_with (go_quiet (fail))
        generalize hWD : World.drewN w _ = WD
        have hbW : Below w.heap.size w WD := by rw [← hWD]; exact bdrewN (Below.refl _ _) _
        have hbWB : Below B w WD := by rw [← hWD]; exact bdrewN (Below.refl _ _) _
        clear hWD
        have hbs' : base ≤ WD.heap.size := Nat.le_trans hbs hbW.size
        have Hm2 := Hm.out.below hbW
        have ow2 := ((HO.out.below hbW).below (bdr (Below.refl _ _))).below (bal (Below.refl _ _) (.cells #[.int .i64 a0, .string l] 128))
        have e1 : WD.drew.cell? ⟨ba, oa + 1, none⟩ = some (.string l) := (hbWB.cell (p := ⟨ba, oa + 1, none⟩) hba).trans hc1
        have hbs2 : base ≤ (WD.drew.alloc (.cells #[.int .i64 a0, .string l] 128)).heap.size := by rw [World.size_alloc]; exact Nat.le_succ_of_le hbs'
        have hnw : ∀ j u, ([.int .i64 a0, .string l] : List Value)[j]? = some u → (WD.drew.alloc (.cells #[.int .i64 a0, .string l] 128)).cell? ((⟨WD.heap.size, 0, none⟩ : Addr).add j) = some u := cells_two_new WD.drew (.int .i64 a0) (.string l) 128
        obtain ⟨v2, w4, hrun, hown2', hg2, _, hat2⟩ := run_append_own_at (P := Try.prog) (w := WD.drew.alloc (.cells #[.int .i64 a0, .string l] 128)) base 61 61 128 i0 _ 2 24 Try.underlying61 hi0 hz hsz hby rfl (by omega) _ _ _ ow2.2 ⟨WD.heap.size, 0, none⟩ 1 1 [.int .i64 a0, .string l] rfl hnw (by simp [Value.oneCell']) (by unfold maxLen; omega) (by omega) hbs2
        have hown2 : Own w4 base 128 encStruck 2 v2 (ls ++ [(a0, l)]) := ⟨fun _ => rfl, by rw [List.flatMap_append, List.length_append]; simpa using hown2'⟩
        clear hown2'
        obtain ⟨A5, n5, c5, rfl⟩ := own_slice hown2
        have Hma := (show At7 WD.drew b 141 (.int .i64 x.1) (.int .i64 x.2.1) (.int .i64 x.2.2) (.int .i64 a0) (.bool true) (.int .i64 bl) (.slice A2 n2 c2) from Hm2).alloc (.cells #[.int .i64 a0, .string l] 128)
        have Hm3 := Hma.grown hg2 HAp.out.ne
        have ap2 := HAp.out.next (by have := Hma.lt; exact this) hat2
        have hb7 := below_own (B := B) ow2 hg2 hB2 (Nat.le_trans hB2 hbs2)
        have hb8 : Below B w w4 := ((hbWB.drew).alloc (Nat.le_trans hB2 hbs') (.cells #[.int .i64 a0, .string l] 128)).trans hb7
        have Hm4 := Hm3.set6 (.slice A5 n5 c5)
        have x0 : WD.drew.cell? ⟨b, 6, none⟩ = some (.slice A2 n2 c2) := Hm2.cell6
        have x1 := Hma.cell6
        have x1' : (WD.alloc (.cells #[.int .i64 a0, .string l] 128)).drew.cell? ⟨b, 6, none⟩ = some (.slice A2 n2 c2) := Hma.cell6
        have x2 := Hm3.cell6
        have x3 := Hm3.frozen 6
        have y0 : WD.drew.cell? ⟨b, 3, none⟩ = some (.int .i64 a0) := Hm2.cell3
        have y1 := Hma.cell3
        have y2 := Hm3.cell3
        have y3 := Hm4.cell3
        have z1 := ((bal (Below.refl _ _) (.cells #[.int .i64 a0, .string l] 128)).cell (p := ⟨ba, oa + 1, none⟩) (by have := Hm2.lt; show ba < WD.heap.size; omega)).trans e1
        have z2 := (hb7.cell (p := ⟨ba, oa + 1, none⟩) hba).trans z1
        have z3 := ((Below.refl B w4).setCell (p := ⟨b, 6, none⟩) hB1 (.slice A5 n5 c5) |>.cell (p := ⟨ba, oa + 1, none⟩) hba).trans z2
        have m2 := Hm4.cell2
        have m5 := Hm4.cell5
        have m3f := Hm4.frozen 3
        have m5f := Hm4.frozen 5
        have m3g := (Hm4.set5 (.int .i64 (bl + 1))).frozen 3
        have m3h := (Hm4.set5 (.int .i64 (bl + 1))).cell3
        have HO2 := Lib.hid hown2
        have HAp2 := Lib.hid ap2
        have HB8 := Lib.hid hb8
        have HM3 := Lib.hid Hm3
        clear Hm2 ow2 Hma Hm3 Hm4 hown2 hb7 hb8 hg2 hat2 hnw hbW hbWB ap2
        go_wp2_with fail
        refine wp_region_held_drew (S := fun w' => w'.cell? ⟨b, 3, none⟩ = some (.int .i64 a0) ∧ w'.cell? ⟨ba, oa + 1, none⟩ = some (.string l)) (by kernel_rfl) ⟨y0, e1⟩ (fun hHeld => ?_)
        refine wpAnyH_take (i := 0) (v := ?_) rfl (by kernel_rfl) (by kernel_rfl) (by kernel_rfl) (fun _ _ _ h => h) (Or.inl ⟨by rfl, ?_⟩) (by assumption) ?_
        rotate_left
        · (intro w hSw; (try dsimp only at hSw); go_simp; try with_reducible rfl)
        try simp only [Act.put, List.getElem_toArray, List.getElem_cons_zero, List.getElem_cons_succ, List.setIfInBounds_toArray, List.set_cons_zero, List.set_cons_succ]
        refine wpAnyH_take (i := 1) (v := ?_) rfl (by kernel_rfl) (by kernel_rfl) (by kernel_rfl) (fun _ _ _ h => h) (Or.inl ⟨by rfl, ?_⟩) (by assumption) ?_
        rotate_left
        · (intro w hSw; (try dsimp only at hSw); go_simp; try with_reducible rfl)
        try simp only [Act.put, List.getElem_toArray, List.getElem_cons_zero, List.getElem_cons_succ, List.setIfInBounds_toArray, List.set_cons_zero, List.set_cons_succ]
        refine wpAnyH_take (i := 2) (v := ?_) rfl (by kernel_rfl) (by kernel_rfl) (by kernel_rfl) (fun _ _ _ h => h) (Or.inl ⟨by rfl, ?_⟩) (by assumption) ?_
        rotate_left
        · (intro w hSw; (try dsimp only at hSw); go_simp; try with_reducible rfl)
        try simp only [Act.put, List.getElem_toArray, List.getElem_cons_zero, List.getElem_cons_succ, List.setIfInBounds_toArray, List.set_cons_zero, List.set_cons_succ]
        refine wpAnyH_take (i := 3) (v := ?_) rfl (by kernel_rfl) (by kernel_rfl) (by kernel_rfl) (fun _ _ _ h => h) (Or.inl ⟨by rfl, ?_⟩) (by assumption) ?_
        rotate_left
        · (intro w hSw; (try dsimp only at hSw); go_simp; try with_reducible rfl)
        try simp only [Act.put, List.getElem_toArray, List.getElem_cons_zero, List.getElem_cons_succ, List.setIfInBounds_toArray, List.set_cons_zero, List.set_cons_succ]
        refine wpAnyH_take (i := 5) (v := ?_) rfl (by kernel_rfl) (by kernel_rfl) (by kernel_rfl) (fun _ _ _ h => h) (Or.inl ⟨by rfl, ?_⟩) (by assumption) ?_
        rotate_left
        · (intro w hSw; (try dsimp only at hSw); go_simp; try with_reducible rfl)
        try simp only [Act.put, List.getElem_toArray, List.getElem_cons_zero, List.getElem_cons_succ, List.setIfInBounds_toArray, List.set_cons_zero, List.set_cons_succ]
        refine wpAnyH_take (i := 6) (v := ?_) rfl (by kernel_rfl) (by kernel_rfl) (by kernel_rfl) (fun _ _ _ h => h) (Or.inl ⟨by rfl, ?_⟩) (by assumption) ?_
        rotate_left
        · (intro w hSw; (try dsimp only at hSw); go_simp; try with_reducible rfl)
        try simp only [Act.put, List.getElem_toArray, List.getElem_cons_zero, List.getElem_cons_succ, List.setIfInBounds_toArray, List.set_cons_zero, List.set_cons_succ]
        refine wpAnyH_take (i := 7) (v := ?_) rfl (by kernel_rfl) (by kernel_rfl) (by kernel_rfl) (fun _ _ _ h => h) (Or.inl ⟨by rfl, ?_⟩) (by assumption) ?_
        rotate_left
        · (intro w hSw; (try dsimp only at hSw); go_simp; try with_reducible rfl)
        try simp only [Act.put, List.getElem_toArray, List.getElem_cons_zero, List.getElem_cons_succ, List.setIfInBounds_toArray, List.set_cons_zero, List.set_cons_succ]
        refine wpAnyH_take (i := 8) (v := ?_) rfl (by kernel_rfl) (by kernel_rfl) (by kernel_rfl) (fun _ _ _ h => h) (Or.inl ⟨by rfl, ?_⟩) (by assumption) ?_
        rotate_left
        · (intro w hSw; (try dsimp only at hSw); go_simp; try with_reducible rfl)
        try simp only [Act.put, List.getElem_toArray, List.getElem_cons_zero, List.getElem_cons_succ, List.setIfInBounds_toArray, List.set_cons_zero, List.set_cons_succ]
        refine wpAnyH_take (i := 9) (v := ?_) rfl (by kernel_rfl) (by kernel_rfl) (by kernel_rfl) (fun _ _ _ h => h) (Or.inl ⟨by rfl, ?_⟩) (by assumption) ?_
        rotate_left
        · (intro w hSw; (try dsimp only at hSw); go_simp; try with_reducible rfl)
        try simp only [Act.put, List.getElem_toArray, List.getElem_cons_zero, List.getElem_cons_succ, List.setIfInBounds_toArray, List.set_cons_zero, List.set_cons_succ]
        refine wpAnyH_take (i := 10) (v := ?_) rfl (by kernel_rfl) (by kernel_rfl) (by kernel_rfl) (fun _ _ _ h => h) (Or.inl ⟨by rfl, ?_⟩) (by assumption) ?_
        rotate_left
        · (intro w hSw; (try dsimp only at hSw); go_simp; try with_reducible rfl)
        try simp only [Act.put, List.getElem_toArray, List.getElem_cons_zero, List.getElem_cons_succ, List.setIfInBounds_toArray, List.set_cons_zero, List.set_cons_succ]
        refine wpAnyH_take (i := 11) (v := ?_) rfl (by kernel_rfl) (by kernel_rfl) (by kernel_rfl) (fun _ _ _ h => h) (Or.inl ⟨by rfl, ?_⟩) (by assumption) ?_
        rotate_left
        · (intro w hSw; (try dsimp only at hSw); go_simp; try with_reducible rfl)
        try simp only [Act.put, List.getElem_toArray, List.getElem_cons_zero, List.getElem_cons_succ, List.setIfInBounds_toArray, List.set_cons_zero, List.set_cons_succ]
        refine wpAnyH_take (i := 12) (v := ?_) rfl (by kernel_rfl) (by kernel_rfl) (by kernel_rfl) (fun _ _ _ h => h) (Or.inl ⟨by rfl, ?_⟩) (by assumption) ?_
        rotate_left
        · (intro w hSw; (try dsimp only at hSw); go_simp; try with_reducible rfl)
        try simp only [Act.put, List.getElem_toArray, List.getElem_cons_zero, List.getElem_cons_succ, List.setIfInBounds_toArray, List.set_cons_zero, List.set_cons_succ]
        refine wpAnyH_take (i := 13) (v := ?_) rfl (by kernel_rfl) (by kernel_rfl) (by kernel_rfl) (fun _ _ _ h => h) (Or.inl ⟨by rfl, ?_⟩) (by assumption) ?_
        rotate_left
        · (intro w hSw; (try dsimp only at hSw); go_simp; try with_reducible rfl)
        try simp only [Act.put, List.getElem_toArray, List.getElem_cons_zero, List.getElem_cons_succ, List.setIfInBounds_toArray, List.set_cons_zero, List.set_cons_succ]
        refine wpAnyH_ready (rs := [4, 14]) (by kernel_rfl) (by simp) ?_
        refine AllReadyH.cons rfl (fun K hK => ?_) (AllReadyH.cons rfl (fun K hK => ?_) AllReadyH.nil)
        · go_simp
          refine hK.out _ _ ⟨y0, e1⟩ (fun hHeld => ?_)
          clear hK K
          try simp only [Act.put, List.getElem_toArray, List.getElem_cons_zero, List.getElem_cons_succ, List.setIfInBounds_toArray, List.set_cons_zero, List.set_cons_succ]
          refine wpAnyH_ready (rs := [14]) (by kernel_rfl) (by simp) ?_
          refine AllReadyH.cons rfl (fun K hK => ?_) AllReadyH.nil
          go_simp
          refine hK.out _ _ ⟨y1, z1⟩ (fun hHeld => ?_)
          clear hK K
          try simp only [Act.put, List.getElem_toArray, List.getElem_cons_zero, List.getElem_cons_succ, List.setIfInBounds_toArray, List.set_cons_zero, List.set_cons_succ]
          refine wpAnyH_ready (rs := [15]) (by kernel_rfl) (by simp) ?_
          refine AllReadyH.cons rfl (fun K hK => ?_) AllReadyH.nil
          rw [if_pos (by rfl)]
          refine append_wp _ _ _ rfl _ _ _ rfl rfl hrun ?_
          refine hK.out _ _ ⟨y2, z2⟩ (fun hHeld => ?_)
          clear hK K
          try simp only [Act.put, List.getElem_toArray, List.getElem_cons_zero, List.getElem_cons_succ, List.setIfInBounds_toArray, List.set_cons_zero, List.set_cons_succ]
          refine wpAnyH_take (i := 16) (v := ?_) rfl (by kernel_rfl) (by kernel_rfl) (by kernel_rfl) (fun _ _ _ h => h) (Or.inl ⟨by rfl, ?_⟩) (by assumption) ?_
          rotate_left
          · (intro w hSw; (try dsimp only at hSw); go_simp; try with_reducible rfl)
          try simp only [Act.put, List.getElem_toArray, List.getElem_cons_zero, List.getElem_cons_succ, List.setIfInBounds_toArray, List.set_cons_zero, List.set_cons_succ]
          refine wpAnyH_take (i := 17) (v := ?_) rfl (by kernel_rfl) (by kernel_rfl) (by kernel_rfl) (fun _ _ _ h => h) (Or.inl ⟨by rfl, ?_⟩) (by assumption) ?_
          rotate_left
          · (intro w hSw; (try dsimp only at hSw); go_simp; try with_reducible rfl)
          try simp only [Act.put, List.getElem_toArray, List.getElem_cons_zero, List.getElem_cons_succ, List.setIfInBounds_toArray, List.set_cons_zero, List.set_cons_succ]
          refine wpAnyH_ready (rs := [18]) (by kernel_rfl) (by simp) ?_
          refine AllReadyH.cons rfl (fun K hK => ?_) AllReadyH.nil
          go_simp
          refine hK.out _ _ ⟨y3, z3⟩ (fun hHeld => ?_)
          clear hK K
          try simp only [Act.put, List.getElem_toArray, List.getElem_cons_zero, List.getElem_cons_succ, List.setIfInBounds_toArray, List.set_cons_zero, List.set_cons_succ]
          refine wpAnyH_done (by kernel_rfl) ?_ _
          go_wp2_with (go_quiet (fail))
          go_wp2_with (go_quiet (fail))
          go_ret
          exact ⟨⟨a0 + 2, true, bl, ls ++ [(a0, l)]⟩, (.slice A5 n5 c5), by rw [HT.out]; rfl, by rw [HT.out]; rfl, ((HM3.out.set6 ((.slice A5 n5 c5))).set3 (.int .i64 (a0 + 2))), (((HO2.out.kept (grown_cs _ b 6 (.slice A5 n5 c5)) HAp2.out.or).below (bdrewN (Below.refl _ _) _)).kept (grown_cs _ b 3 (.int .i64 (a0 + 2))) HAp2.out.or), HAp2.out, ((bdrewN (HB8.out.setCell (p := ⟨b, 6, none⟩) hB1 ((.slice A5 n5 c5))) _).setCell (p := ⟨b, 3, none⟩) hB1 (.int .i64 (a0 + 2)))⟩
        · go_simp
          refine hK.out _ _ ⟨y1, z1⟩ (fun hHeld => ?_)
          clear hK K
          try simp only [Act.put, List.getElem_toArray, List.getElem_cons_zero, List.getElem_cons_succ, List.setIfInBounds_toArray, List.set_cons_zero, List.set_cons_succ]
          refine wpAnyH_ready (rs := [4]) (by kernel_rfl) (by simp) ?_
          refine AllReadyH.cons rfl (fun K hK => ?_) AllReadyH.nil
          go_simp
          refine hK.out _ _ ⟨y1, z1⟩ (fun hHeld => ?_)
          clear hK K
          try simp only [Act.put, List.getElem_toArray, List.getElem_cons_zero, List.getElem_cons_succ, List.setIfInBounds_toArray, List.set_cons_zero, List.set_cons_succ]
          refine wpAnyH_ready (rs := [15]) (by kernel_rfl) (by simp) ?_
          refine AllReadyH.cons rfl (fun K hK => ?_) AllReadyH.nil
          rw [if_pos (by rfl)]
          refine append_wp _ _ _ rfl _ _ _ rfl rfl hrun ?_
          refine hK.out _ _ ⟨y2, z2⟩ (fun hHeld => ?_)
          clear hK K
          try simp only [Act.put, List.getElem_toArray, List.getElem_cons_zero, List.getElem_cons_succ, List.setIfInBounds_toArray, List.set_cons_zero, List.set_cons_succ]
          refine wpAnyH_take (i := 16) (v := ?_) rfl (by kernel_rfl) (by kernel_rfl) (by kernel_rfl) (fun _ _ _ h => h) (Or.inl ⟨by rfl, ?_⟩) (by assumption) ?_
          rotate_left
          · (intro w hSw; (try dsimp only at hSw); go_simp; try with_reducible rfl)
          try simp only [Act.put, List.getElem_toArray, List.getElem_cons_zero, List.getElem_cons_succ, List.setIfInBounds_toArray, List.set_cons_zero, List.set_cons_succ]
          refine wpAnyH_take (i := 17) (v := ?_) rfl (by kernel_rfl) (by kernel_rfl) (by kernel_rfl) (fun _ _ _ h => h) (Or.inl ⟨by rfl, ?_⟩) (by assumption) ?_
          rotate_left
          · (intro w hSw; (try dsimp only at hSw); go_simp; try with_reducible rfl)
          try simp only [Act.put, List.getElem_toArray, List.getElem_cons_zero, List.getElem_cons_succ, List.setIfInBounds_toArray, List.set_cons_zero, List.set_cons_succ]
          refine wpAnyH_ready (rs := [18]) (by kernel_rfl) (by simp) ?_
          refine AllReadyH.cons rfl (fun K hK => ?_) AllReadyH.nil
          go_simp
          refine hK.out _ _ ⟨y3, z3⟩ (fun hHeld => ?_)
          clear hK K
          try simp only [Act.put, List.getElem_toArray, List.getElem_cons_zero, List.getElem_cons_succ, List.setIfInBounds_toArray, List.set_cons_zero, List.set_cons_succ]
          refine wpAnyH_done (by kernel_rfl) ?_ _
          go_wp2_with (go_quiet (fail))
          go_wp2_with (go_quiet (fail))
          go_ret
          exact ⟨⟨a0 + 2, true, bl, ls ++ [(a0, l)]⟩, (.slice A5 n5 c5), by rw [HT.out]; rfl, by rw [HT.out]; rfl, ((HM3.out.set6 ((.slice A5 n5 c5))).set3 (.int .i64 (a0 + 2))), (((HO2.out.kept (grown_cs _ b 6 (.slice A5 n5 c5)) HAp2.out.or).below (bdrewN (Below.refl _ _) _)).kept (grown_cs _ b 3 (.int .i64 (a0 + 2))) HAp2.out.or), HAp2.out, ((bdrewN (HB8.out.setCell (p := ⟨b, 6, none⟩) hB1 ((.slice A5 n5 c5))) _).setCell (p := ⟨b, 3, none⟩) hB1 (.int .i64 (a0 + 2)))⟩
      · have t4 : decide (a0 < x.2.2) = true := decide_eq_true h
        have t5 : decide (x.2.2 ≤ a0 + 2) = true := decide_eq_true h2
        rw [if_pos ⟨h, h2⟩] at hT
        have HT := Lib.hid hT
        clear hT h h2
        clear p1 p2 p3 p4 p5 hm hown hap
        have f3b := (Hm.out.set5 (.int .i64 (bl + 1))).frozen 3
        have d3b := (Hm.out.set5 (.int .i64 (bl + 1))).cell3
        go_enter Try.func136, Try.ntmps136
        go_wp2_with (go_at_call 162; refine (l04Step_any 0 HKK.out _).mono ?_; rintro e w9 ⟨rfl, rfl⟩; rw [HSW.out])
        go_wp2_with (go_quiet (fail))
        generalize hWD : World.drewN w _ = WD
        have hbW : Below w.heap.size w WD := by rw [← hWD]; exact bdrewN (Below.refl _ _) _
        have hbWB : Below B w WD := by rw [← hWD]; exact bdrewN (Below.refl _ _) _
        clear hWD
        have hbs' : base ≤ WD.heap.size := Nat.le_trans hbs hbW.size
        have Hm2 := Hm.out.below hbW
        have ow2 := ((HO.out.below hbW).below (bdr (Below.refl _ _))).below (bal (Below.refl _ _) (.cells #[.int .i64 a0, .string l] 128))
        have e1 : WD.drew.cell? ⟨ba, oa + 1, none⟩ = some (.string l) := (hbWB.cell (p := ⟨ba, oa + 1, none⟩) hba).trans hc1
        have hbs2 : base ≤ (WD.drew.alloc (.cells #[.int .i64 a0, .string l] 128)).heap.size := by rw [World.size_alloc]; exact Nat.le_succ_of_le hbs'
        have hnw : ∀ j u, ([.int .i64 a0, .string l] : List Value)[j]? = some u → (WD.drew.alloc (.cells #[.int .i64 a0, .string l] 128)).cell? ((⟨WD.heap.size, 0, none⟩ : Addr).add j) = some u := cells_two_new WD.drew (.int .i64 a0) (.string l) 128
        obtain ⟨v2, w4, hrun, hown2', hg2, _, hat2⟩ := run_append_own_at (P := Try.prog) (w := WD.drew.alloc (.cells #[.int .i64 a0, .string l] 128)) base 61 61 128 i0 _ 2 24 Try.underlying61 hi0 hz hsz hby rfl (by omega) _ _ _ ow2.2 ⟨WD.heap.size, 0, none⟩ 1 1 [.int .i64 a0, .string l] rfl hnw (by simp [Value.oneCell']) (by unfold maxLen; omega) (by omega) hbs2
        have hown2 : Own w4 base 128 encStruck 2 v2 (ls ++ [(a0, l)]) := ⟨fun _ => rfl, by rw [List.flatMap_append, List.length_append]; simpa using hown2'⟩
        clear hown2'
        obtain ⟨A5, n5, c5, rfl⟩ := own_slice hown2
        have Hma := (show At7 WD.drew b 141 (.int .i64 x.1) (.int .i64 x.2.1) (.int .i64 x.2.2) (.int .i64 a0) (.bool true) (.int .i64 bl) (.slice A2 n2 c2) from Hm2).alloc (.cells #[.int .i64 a0, .string l] 128)
        have Hm3 := Hma.grown hg2 HAp.out.ne
        have ap2 := HAp.out.next (by have := Hma.lt; exact this) hat2
        have hb7 := below_own (B := B) ow2 hg2 hB2 (Nat.le_trans hB2 hbs2)
        have hb8 : Below B w w4 := ((hbWB.drew).alloc (Nat.le_trans hB2 hbs') (.cells #[.int .i64 a0, .string l] 128)).trans hb7
        have Hm4 := Hm3.set6 (.slice A5 n5 c5)
        have x0 : WD.drew.cell? ⟨b, 6, none⟩ = some (.slice A2 n2 c2) := Hm2.cell6
        have x1 := Hma.cell6
        have x1' : (WD.alloc (.cells #[.int .i64 a0, .string l] 128)).drew.cell? ⟨b, 6, none⟩ = some (.slice A2 n2 c2) := Hma.cell6
        have x2 := Hm3.cell6
        have x3 := Hm3.frozen 6
        have y0 : WD.drew.cell? ⟨b, 3, none⟩ = some (.int .i64 a0) := Hm2.cell3
        have y1 := Hma.cell3
        have y2 := Hm3.cell3
        have y3 := Hm4.cell3
        have z1 := ((bal (Below.refl _ _) (.cells #[.int .i64 a0, .string l] 128)).cell (p := ⟨ba, oa + 1, none⟩) (by have := Hm2.lt; show ba < WD.heap.size; omega)).trans e1
        have z2 := (hb7.cell (p := ⟨ba, oa + 1, none⟩) hba).trans z1
        have z3 := ((Below.refl B w4).setCell (p := ⟨b, 6, none⟩) hB1 (.slice A5 n5 c5) |>.cell (p := ⟨ba, oa + 1, none⟩) hba).trans z2
        have m2 := Hm4.cell2
        have m5 := Hm4.cell5
        have m3f := Hm4.frozen 3
        have m5f := Hm4.frozen 5
        have m3g := (Hm4.set5 (.int .i64 (bl + 1))).frozen 3
        have m3h := (Hm4.set5 (.int .i64 (bl + 1))).cell3
        have HO2 := Lib.hid hown2
        have HAp2 := Lib.hid ap2
        have HB8 := Lib.hid hb8
        have HM3 := Lib.hid Hm3
        clear Hm2 ow2 Hma Hm3 Hm4 hown2 hb7 hb8 hg2 hat2 hnw hbW hbWB ap2
        go_wp2_with fail
        refine wp_region_held_drew (S := fun w' => w'.cell? ⟨b, 3, none⟩ = some (.int .i64 a0) ∧ w'.cell? ⟨ba, oa + 1, none⟩ = some (.string l)) (by kernel_rfl) ⟨y0, e1⟩ (fun hHeld => ?_)
        refine wpAnyH_take (i := 0) (v := ?_) rfl (by kernel_rfl) (by kernel_rfl) (by kernel_rfl) (fun _ _ _ h => h) (Or.inl ⟨by rfl, ?_⟩) (by assumption) ?_
        rotate_left
        · (intro w hSw; (try dsimp only at hSw); go_simp; try with_reducible rfl)
        try simp only [Act.put, List.getElem_toArray, List.getElem_cons_zero, List.getElem_cons_succ, List.setIfInBounds_toArray, List.set_cons_zero, List.set_cons_succ]
        refine wpAnyH_take (i := 1) (v := ?_) rfl (by kernel_rfl) (by kernel_rfl) (by kernel_rfl) (fun _ _ _ h => h) (Or.inl ⟨by rfl, ?_⟩) (by assumption) ?_
        rotate_left
        · (intro w hSw; (try dsimp only at hSw); go_simp; try with_reducible rfl)
        try simp only [Act.put, List.getElem_toArray, List.getElem_cons_zero, List.getElem_cons_succ, List.setIfInBounds_toArray, List.set_cons_zero, List.set_cons_succ]
        refine wpAnyH_take (i := 2) (v := ?_) rfl (by kernel_rfl) (by kernel_rfl) (by kernel_rfl) (fun _ _ _ h => h) (Or.inl ⟨by rfl, ?_⟩) (by assumption) ?_
        rotate_left
        · (intro w hSw; (try dsimp only at hSw); go_simp; try with_reducible rfl)
        try simp only [Act.put, List.getElem_toArray, List.getElem_cons_zero, List.getElem_cons_succ, List.setIfInBounds_toArray, List.set_cons_zero, List.set_cons_succ]
        refine wpAnyH_take (i := 3) (v := ?_) rfl (by kernel_rfl) (by kernel_rfl) (by kernel_rfl) (fun _ _ _ h => h) (Or.inl ⟨by rfl, ?_⟩) (by assumption) ?_
        rotate_left
        · (intro w hSw; (try dsimp only at hSw); go_simp; try with_reducible rfl)
        try simp only [Act.put, List.getElem_toArray, List.getElem_cons_zero, List.getElem_cons_succ, List.setIfInBounds_toArray, List.set_cons_zero, List.set_cons_succ]
        refine wpAnyH_take (i := 5) (v := ?_) rfl (by kernel_rfl) (by kernel_rfl) (by kernel_rfl) (fun _ _ _ h => h) (Or.inl ⟨by rfl, ?_⟩) (by assumption) ?_
        rotate_left
        · (intro w hSw; (try dsimp only at hSw); go_simp; try with_reducible rfl)
        try simp only [Act.put, List.getElem_toArray, List.getElem_cons_zero, List.getElem_cons_succ, List.setIfInBounds_toArray, List.set_cons_zero, List.set_cons_succ]
        refine wpAnyH_take (i := 6) (v := ?_) rfl (by kernel_rfl) (by kernel_rfl) (by kernel_rfl) (fun _ _ _ h => h) (Or.inl ⟨by rfl, ?_⟩) (by assumption) ?_
        rotate_left
        · (intro w hSw; (try dsimp only at hSw); go_simp; try with_reducible rfl)
        try simp only [Act.put, List.getElem_toArray, List.getElem_cons_zero, List.getElem_cons_succ, List.setIfInBounds_toArray, List.set_cons_zero, List.set_cons_succ]
        refine wpAnyH_take (i := 7) (v := ?_) rfl (by kernel_rfl) (by kernel_rfl) (by kernel_rfl) (fun _ _ _ h => h) (Or.inl ⟨by rfl, ?_⟩) (by assumption) ?_
        rotate_left
        · (intro w hSw; (try dsimp only at hSw); go_simp; try with_reducible rfl)
        try simp only [Act.put, List.getElem_toArray, List.getElem_cons_zero, List.getElem_cons_succ, List.setIfInBounds_toArray, List.set_cons_zero, List.set_cons_succ]
        refine wpAnyH_take (i := 8) (v := ?_) rfl (by kernel_rfl) (by kernel_rfl) (by kernel_rfl) (fun _ _ _ h => h) (Or.inl ⟨by rfl, ?_⟩) (by assumption) ?_
        rotate_left
        · (intro w hSw; (try dsimp only at hSw); go_simp; try with_reducible rfl)
        try simp only [Act.put, List.getElem_toArray, List.getElem_cons_zero, List.getElem_cons_succ, List.setIfInBounds_toArray, List.set_cons_zero, List.set_cons_succ]
        refine wpAnyH_take (i := 9) (v := ?_) rfl (by kernel_rfl) (by kernel_rfl) (by kernel_rfl) (fun _ _ _ h => h) (Or.inl ⟨by rfl, ?_⟩) (by assumption) ?_
        rotate_left
        · (intro w hSw; (try dsimp only at hSw); go_simp; try with_reducible rfl)
        try simp only [Act.put, List.getElem_toArray, List.getElem_cons_zero, List.getElem_cons_succ, List.setIfInBounds_toArray, List.set_cons_zero, List.set_cons_succ]
        refine wpAnyH_take (i := 10) (v := ?_) rfl (by kernel_rfl) (by kernel_rfl) (by kernel_rfl) (fun _ _ _ h => h) (Or.inl ⟨by rfl, ?_⟩) (by assumption) ?_
        rotate_left
        · (intro w hSw; (try dsimp only at hSw); go_simp; try with_reducible rfl)
        try simp only [Act.put, List.getElem_toArray, List.getElem_cons_zero, List.getElem_cons_succ, List.setIfInBounds_toArray, List.set_cons_zero, List.set_cons_succ]
        refine wpAnyH_take (i := 11) (v := ?_) rfl (by kernel_rfl) (by kernel_rfl) (by kernel_rfl) (fun _ _ _ h => h) (Or.inl ⟨by rfl, ?_⟩) (by assumption) ?_
        rotate_left
        · (intro w hSw; (try dsimp only at hSw); go_simp; try with_reducible rfl)
        try simp only [Act.put, List.getElem_toArray, List.getElem_cons_zero, List.getElem_cons_succ, List.setIfInBounds_toArray, List.set_cons_zero, List.set_cons_succ]
        refine wpAnyH_take (i := 12) (v := ?_) rfl (by kernel_rfl) (by kernel_rfl) (by kernel_rfl) (fun _ _ _ h => h) (Or.inl ⟨by rfl, ?_⟩) (by assumption) ?_
        rotate_left
        · (intro w hSw; (try dsimp only at hSw); go_simp; try with_reducible rfl)
        try simp only [Act.put, List.getElem_toArray, List.getElem_cons_zero, List.getElem_cons_succ, List.setIfInBounds_toArray, List.set_cons_zero, List.set_cons_succ]
        refine wpAnyH_take (i := 13) (v := ?_) rfl (by kernel_rfl) (by kernel_rfl) (by kernel_rfl) (fun _ _ _ h => h) (Or.inl ⟨by rfl, ?_⟩) (by assumption) ?_
        rotate_left
        · (intro w hSw; (try dsimp only at hSw); go_simp; try with_reducible rfl)
        try simp only [Act.put, List.getElem_toArray, List.getElem_cons_zero, List.getElem_cons_succ, List.setIfInBounds_toArray, List.set_cons_zero, List.set_cons_succ]
        refine wpAnyH_ready (rs := [4, 14]) (by kernel_rfl) (by simp) ?_
        refine AllReadyH.cons rfl (fun K hK => ?_) (AllReadyH.cons rfl (fun K hK => ?_) AllReadyH.nil)
        · go_simp
          refine hK.out _ _ ⟨y0, e1⟩ (fun hHeld => ?_)
          clear hK K
          try simp only [Act.put, List.getElem_toArray, List.getElem_cons_zero, List.getElem_cons_succ, List.setIfInBounds_toArray, List.set_cons_zero, List.set_cons_succ]
          refine wpAnyH_ready (rs := [14]) (by kernel_rfl) (by simp) ?_
          refine AllReadyH.cons rfl (fun K hK => ?_) AllReadyH.nil
          go_simp
          refine hK.out _ _ ⟨y1, z1⟩ (fun hHeld => ?_)
          clear hK K
          try simp only [Act.put, List.getElem_toArray, List.getElem_cons_zero, List.getElem_cons_succ, List.setIfInBounds_toArray, List.set_cons_zero, List.set_cons_succ]
          refine wpAnyH_ready (rs := [15]) (by kernel_rfl) (by simp) ?_
          refine AllReadyH.cons rfl (fun K hK => ?_) AllReadyH.nil
          rw [if_pos (by rfl)]
          refine append_wp _ _ _ rfl _ _ _ rfl rfl hrun ?_
          refine hK.out _ _ ⟨y2, z2⟩ (fun hHeld => ?_)
          clear hK K
          try simp only [Act.put, List.getElem_toArray, List.getElem_cons_zero, List.getElem_cons_succ, List.setIfInBounds_toArray, List.set_cons_zero, List.set_cons_succ]
          refine wpAnyH_take (i := 16) (v := ?_) rfl (by kernel_rfl) (by kernel_rfl) (by kernel_rfl) (fun _ _ _ h => h) (Or.inl ⟨by rfl, ?_⟩) (by assumption) ?_
          rotate_left
          · (intro w hSw; (try dsimp only at hSw); go_simp; try with_reducible rfl)
          try simp only [Act.put, List.getElem_toArray, List.getElem_cons_zero, List.getElem_cons_succ, List.setIfInBounds_toArray, List.set_cons_zero, List.set_cons_succ]
          refine wpAnyH_take (i := 17) (v := ?_) rfl (by kernel_rfl) (by kernel_rfl) (by kernel_rfl) (fun _ _ _ h => h) (Or.inl ⟨by rfl, ?_⟩) (by assumption) ?_
          rotate_left
          · (intro w hSw; (try dsimp only at hSw); go_simp; try with_reducible rfl)
          try simp only [Act.put, List.getElem_toArray, List.getElem_cons_zero, List.getElem_cons_succ, List.setIfInBounds_toArray, List.set_cons_zero, List.set_cons_succ]
          refine wpAnyH_ready (rs := [18]) (by kernel_rfl) (by simp) ?_
          refine AllReadyH.cons rfl (fun K hK => ?_) AllReadyH.nil
          go_simp
          refine hK.out _ _ ⟨y3, z3⟩ (fun hHeld => ?_)
          clear hK K
          try simp only [Act.put, List.getElem_toArray, List.getElem_cons_zero, List.getElem_cons_succ, List.setIfInBounds_toArray, List.set_cons_zero, List.set_cons_succ]
          refine wpAnyH_done (by kernel_rfl) ?_ _
          go_wp2_with (go_quiet (fail))
          go_wp2_with (go_quiet (fail))
          go_ret
          exact ⟨⟨a0 + 2, true, bl + 1, ls ++ [(a0, l)]⟩, (.slice A5 n5 c5), by rw [HT.out]; rfl, by rw [HT.out]; rfl, (((HM3.out.set6 ((.slice A5 n5 c5))).set5 (.int .i64 (bl + 1))).set3 (.int .i64 (a0 + 2))), ((((HO2.out.kept (grown_cs _ b 6 (.slice A5 n5 c5)) HAp2.out.or).below (bdrewN (Below.refl _ _) _)).kept (grown_cs _ b 5 (.int .i64 (bl + 1))) HAp2.out.or).kept (grown_cs _ b 3 (.int .i64 (a0 + 2))) HAp2.out.or), HAp2.out, (((bdrewN (HB8.out.setCell (p := ⟨b, 6, none⟩) hB1 ((.slice A5 n5 c5))) _).setCell (p := ⟨b, 5, none⟩) hB1 (.int .i64 (bl + 1))).setCell (p := ⟨b, 3, none⟩) hB1 (.int .i64 (a0 + 2)))⟩
        · go_simp
          refine hK.out _ _ ⟨y1, z1⟩ (fun hHeld => ?_)
          clear hK K
          try simp only [Act.put, List.getElem_toArray, List.getElem_cons_zero, List.getElem_cons_succ, List.setIfInBounds_toArray, List.set_cons_zero, List.set_cons_succ]
          refine wpAnyH_ready (rs := [4]) (by kernel_rfl) (by simp) ?_
          refine AllReadyH.cons rfl (fun K hK => ?_) AllReadyH.nil
          go_simp
          refine hK.out _ _ ⟨y1, z1⟩ (fun hHeld => ?_)
          clear hK K
          try simp only [Act.put, List.getElem_toArray, List.getElem_cons_zero, List.getElem_cons_succ, List.setIfInBounds_toArray, List.set_cons_zero, List.set_cons_succ]
          refine wpAnyH_ready (rs := [15]) (by kernel_rfl) (by simp) ?_
          refine AllReadyH.cons rfl (fun K hK => ?_) AllReadyH.nil
          rw [if_pos (by rfl)]
          refine append_wp _ _ _ rfl _ _ _ rfl rfl hrun ?_
          refine hK.out _ _ ⟨y2, z2⟩ (fun hHeld => ?_)
          clear hK K
          try simp only [Act.put, List.getElem_toArray, List.getElem_cons_zero, List.getElem_cons_succ, List.setIfInBounds_toArray, List.set_cons_zero, List.set_cons_succ]
          refine wpAnyH_take (i := 16) (v := ?_) rfl (by kernel_rfl) (by kernel_rfl) (by kernel_rfl) (fun _ _ _ h => h) (Or.inl ⟨by rfl, ?_⟩) (by assumption) ?_
          rotate_left
          · (intro w hSw; (try dsimp only at hSw); go_simp; try with_reducible rfl)
          try simp only [Act.put, List.getElem_toArray, List.getElem_cons_zero, List.getElem_cons_succ, List.setIfInBounds_toArray, List.set_cons_zero, List.set_cons_succ]
          refine wpAnyH_take (i := 17) (v := ?_) rfl (by kernel_rfl) (by kernel_rfl) (by kernel_rfl) (fun _ _ _ h => h) (Or.inl ⟨by rfl, ?_⟩) (by assumption) ?_
          rotate_left
          · (intro w hSw; (try dsimp only at hSw); go_simp; try with_reducible rfl)
          try simp only [Act.put, List.getElem_toArray, List.getElem_cons_zero, List.getElem_cons_succ, List.setIfInBounds_toArray, List.set_cons_zero, List.set_cons_succ]
          refine wpAnyH_ready (rs := [18]) (by kernel_rfl) (by simp) ?_
          refine AllReadyH.cons rfl (fun K hK => ?_) AllReadyH.nil
          go_simp
          refine hK.out _ _ ⟨y3, z3⟩ (fun hHeld => ?_)
          clear hK K
          try simp only [Act.put, List.getElem_toArray, List.getElem_cons_zero, List.getElem_cons_succ, List.setIfInBounds_toArray, List.set_cons_zero, List.set_cons_succ]
          refine wpAnyH_done (by kernel_rfl) ?_ _
          go_wp2_with (go_quiet (fail))
          go_wp2_with (go_quiet (fail))
          go_ret
          exact ⟨⟨a0 + 2, true, bl + 1, ls ++ [(a0, l)]⟩, (.slice A5 n5 c5), by rw [HT.out]; rfl, by rw [HT.out]; rfl, (((HM3.out.set6 ((.slice A5 n5 c5))).set5 (.int .i64 (bl + 1))).set3 (.int .i64 (a0 + 2))), ((((HO2.out.kept (grown_cs _ b 6 (.slice A5 n5 c5)) HAp2.out.or).below (bdrewN (Below.refl _ _) _)).kept (grown_cs _ b 5 (.int .i64 (bl + 1))) HAp2.out.or).kept (grown_cs _ b 3 (.int .i64 (a0 + 2))) HAp2.out.or), HAp2.out, (((bdrewN (HB8.out.setCell (p := ⟨b, 6, none⟩) hB1 ((.slice A5 n5 c5))) _).setCell (p := ⟨b, 5, none⟩) hB1 (.int .i64 (bl + 1))).setCell (p := ⟨b, 3, none⟩) hB1 (.int .i64 (a0 + 2)))⟩
end Go.Proofs.Yteepcnfpdmmnhaa
