/-
  FAirI: the bars in the air: impl.InTheAir. Printed by wip/gen_air.py.
-/
import Derived.Test.YteepcnfpdmmnhaaFAir
import Derived.Test.YteepcnfpdmmnhaaShSort
import Derived.Test.YteepcnfpdmmnhaaBlk1
namespace Go.Proofs.Yteepcnfpdmmnhaa
open Go.RowKit
set_option linter.unusedVariables false
attribute [local go_sem ↓] Go.wp_at_zero Go.wp_at_succ
set_option linter.unusedSimpArgs false
theorem ascN_sorted (f : Nat → Bool) (m : Nat) : (ascN f m).Pairwise (· ≤ ·) := by
  unfold ascN
  rw [List.pairwise_map]
  exact (List.pairwise_lt_range.filter _).imp (fun h => by omega)
def zc60 : Array Value := (List.replicate 60 (Value.bool false)).toArray
theorem zc60_run (w : World) : (zeroValue 105).run Try.prog w = .ok (.agg zc60) w := by kernel_rfl
theorem zc60_facts : zc60.toList = List.replicate 60 (Value.bool false) ∧ zc60.toList.all (·.oneCell') = true ∧ zc60.size = 60 := ⟨rfl, rfl, rfl⟩
theorem sizeB1 (w : World) : (sizeOf 4).run Try.prog w = .ok 1 w := by kernel_rfl
theorem sizeB60 : (Try.prog.info? 105).map (·.size) = some 60 := by kernel_rfl
theorem aggB1 (w : World) : (isAgg 4).run Try.prog w = .ok false w := by kernel_rfl
set_option maxHeartbeats 3200000 in
set_option maxRecDepth 10000 in
theorem impl_InTheAir_any (x : TBasket) (hx : okBasket x) (A : Option Addr) (c : Nat) (xs : List TStroke) (hxl : xs.length ≤ 1048576) (hk : ∀ n ∈ xs, KStroke n) (t : Int) (ht : I64 t) (w : World) (rx : Row w A encStroke 2 xs) :
    Calls Try.prog 17 #[.agg #[.int .i64 x.1, .int .i64 x.2.1, .int .i64 x.2.2.1, .int .i64 x.2.2.2.1, .int .i64 x.2.2.2.2], .slice A xs.length c, .int .i64 t] w (RLE encInt 1 2 (M_InTheAir x xs t) w) := by
  obtain ⟨W0, hW0⟩ : ∃ W0, W0 = w.alloc (.cells #[.int .i64 x.1, .int .i64 x.2.1, .int .i64 x.2.2.1, .int .i64 x.2.2.2.1, .int .i64 x.2.2.2.2] 29) := ⟨_, rfl⟩
  have hB0 : Below w.heap.size w W0 := by rw [hW0]; exact bal (Below.refl _ _) _
  have k0 : AtBasket W0 w.heap.size x := by rw [hW0]; exact AtBasket.new w _ x
  have HW := Lib.hid hW0
  clear hW0
  obtain ⟨i0, hi0, hz, hsz, hby⟩ := info_parts info_Int64S
  by_cases h : StrokesOk x xs
  case neg =>
    have HM := Lib.hid (show M_InTheAir x xs t = ([], 1) by unfold M_InTheAir; rw [if_neg h])
    go_enter Try.func17, Try.ntmps17
    go_wp2_with fail
    rw [← HW.out]
    refine (RBb.no (impl_ValidStrokes_any x hx _ _ xs hxl hk _ (rx.below hB0)) h).mono ?_; rintro e w1 ⟨rfl, hb1⟩
    go_wp2_with fail
    go_ret2
    exact RLE.no (fun _ => rfl) HM.out.symm (bnext hB0 hb1)
  by_cases h2 : 0 ≤ t ∧ t ≤ 1000000
  case neg =>
    have HM := Lib.hid (show M_InTheAir x xs t = ([], 2) by unfold M_InTheAir; rw [if_pos h, if_neg h2])
    go_enter Try.func17, Try.ntmps17
    go_wp2_with fail
    rw [← HW.out]
    refine (RBb.yes (impl_ValidStrokes_any x hx _ _ xs hxl hk _ (rx.below hB0)) h).mono ?_; rintro e w1 ⟨rfl, hb1⟩
    go_wp2_with (go_at_call 72; refine (between_no t 0 1000000 h2 _).mono ?_; rintro e w4 ⟨rfl, rfl⟩)
    go_ret2
    exact RLE.no (fun _ => rfl) HM.out.symm (bnext hB0 hb1)
  have HM := Lib.hid (show M_InTheAir x xs t = (airL x t xs, 0) by unfold M_InTheAir; rw [if_pos h, if_pos h2])
  have HS := Lib.hid h
  have h60 := h.2.1
  have hbk := h.1
  have hl60 := ascN_len (airP x t xs xs.length) 60
  have HL := Lib.hid (show (airL x t xs).length ≤ 1048576 by unfold airL; omega)
  clear hl60
  go_enter Try.func17, Try.ntmps17
  go_wp2_with fail
  rw [← HW.out]
  refine (RBb.yes (impl_ValidStrokes_any x hx _ _ xs hxl hk _ (rx.below hB0)) h).mono ?_; rintro e w1 ⟨rfl, hb1⟩
  have k1 := k0.next hb1
  have hB1 := bnext hB0 hb1
  clear k0
  replace k0 := k1
  obtain ⟨zc, hzc⟩ : ∃ zc, zc = zc60 := ⟨_, rfl⟩
  have hzv : ∀ w, (zeroValue 105).run Try.prog w = .ok (.agg zc) w := by rw [hzc]; exact zc60_run
  obtain ⟨hz1, hz2, hzs⟩ : zc.toList = List.replicate 60 (Value.bool false) ∧ zc.toList.all (·.oneCell') = true ∧ zc.size = 60 := by rw [hzc]; exact zc60_facts
  have hzn : ¬ zc = #[] := fun hh => by rw [hh] at hzs; simp at hzs
  have hst := store_zero (P := Try.prog) w1 zc 105 hz2
  have HR := Lib.hid (rowIs_of_list w1 zc 105 60 (.bool false) hz1)
  have hbL := bal (Below.refl w1.heap.size w1) (.cells zc 105)
  clear hz1 hz2 hzc
  go_wp2_with (go_at_call 72; refine (between_yes t 0 1000000 h2 _).mono ?_; rintro e w4 ⟨rfl, rfl⟩)
  go_loopg [24] xs.length (fun g is wr => ∃ k : Nat, k ≤ xs.length ∧ g = xs.length - k ∧ Below w1.heap.size w1 wr ∧ wr.rowIs w1.heap.size 105 60 (fun j => .bool (airP x t xs k j)) ∧ is = .int .i64 k)
  case atStart => exact ⟨0, Nat.zero_le _, rfl, hbL, HR.out.congr (fun j _ => show Value.bool false = Value.bool (airP x t xs 0 j) by simp [airP]), rfl⟩
  case round =>
    obtain ⟨k, hkk, hg, hbw, hrow, rfl⟩ := hrel
    have HG := Lib.hid hg
    clear hg hst HR hbL h hzv hzs hzn
    by_cases hlt : k < xs.length
    · obtain ⟨p, hp, hp6, hq0, hq9⟩ := stroke_nat HS.out k hlt
      obtain ⟨b, off, hA, hb, c0, c1⟩ := (rx.below (bnext hB1 hbw)).at2 (f := fun x : TStroke => .int .i64 x.1) (g := fun x : TStroke => .int .i64 x.2) (k := k) hlt
      subst hA
      have i1 : (0 : Int) ≤ (k : Int) := by omega
      have i2 : (k : Int) < (xs.length : Int) := by omega
      obtain ⟨q, hq⟩ : ∃ q, xs[k].2 = q := ⟨_, rfl⟩
      have hpq : xs[k] = ((p : Int), q) := by rw [← hp, ← hq]
      rw [hp] at c0
      rw [hq] at c1 hq0 hq9
      have hB2 := bal hbw (.cells #[.int .i64 (p : Int), .int .i64 q] 101)
      have hr1 := hrow.alloc (.cells #[.int .i64 (p : Int), .int .i64 q] 101)
      obtain ⟨_, z0, z1, z2, z3, z4⟩ := k0.next hB2
      have hne : w1.heap.size ≠ wr.heap.size := Nat.ne_of_lt hrow.lt
      have hbn : w.heap.size ≠ wr.heap.size := Nat.ne_of_lt (Nat.lt_of_lt_of_le k0.1 hbw.size)
      have ww1 : IntKind.i64.wrap (q + x.2.1) = q + x.2.1 := IntWalk.i64_in _ (by omega)
      have ww2 : IntKind.i64.wrap (q + x.2.1 + x.2.2.1) = q + x.2.1 + x.2.2.1 := IntWalk.i64_in _ (by omega)
      by_cases a1 : q ≤ t
      · have t1 : decide (q ≤ t) = true := decide_eq_true a1
        by_cases a2 : t < q + x.2.1 + x.2.2.1
        · have t2 : decide (t < q + x.2.1 + x.2.2.1) = true := decide_eq_true a2
          have hu : upP x t ((p : Int), q) = true := (up_iff x t p q).2 ⟨a1, by omega⟩
          have cell1 := hr1.cell (i := p) hp6
          have frz1 := hr1.frozen p
          have HR3 := Lib.hid (hr1.set p (.bool true))
          have HN := Lib.hid (show ∀ j, (if j = p then Value.bool true else Value.bool (airP x t xs k j)) = Value.bool (airP x t xs (k + 1) j) from fun j => by
            rw [airP_yes x t xs k j p hlt hp (by rw [hpq]; exact hu)]
            by_cases q1 : j = p
            · subst q1; rw [if_pos rfl]; simp
            · rw [if_neg q1, show (p == j) = false by rw [beq_eq_false_iff_ne]; omega, Bool.or_false])
          have p1 : (0 : Int) ≤ (p : Int) := by omega
          have p2 : (p : Int) < 60 := by omega
          clear hrow hr1 hp hq hpq hu a1 a2 hbk h2
          go_wp2_with fail
          go_roundg (xs.length - (k + 1))
          case measure => rw [HG.out]; omega
          case rel => exact ⟨k + 1, by omega, rfl, hB2.setCell (Nat.le_refl _) _, HR3.out.congr (fun j _ => HN.out j), by go_num⟩
        · have t2 : decide (t < q + x.2.1 + x.2.2.1) = false := decide_eq_false a2
          have hu : upP x t ((p : Int), q) = false := Bool.eq_false_iff.2 (fun hh => a2 (by have := ((up_iff x t p q).1 hh).2; omega))
          have HN := Lib.hid (show ∀ j, Value.bool (airP x t xs k j) = Value.bool (airP x t xs (k + 1) j) from fun j => by rw [airP_not x t xs k j hlt (by rw [hpq]; exact hu)])
          have HR3 := Lib.hid hr1
          clear hrow hr1 hp hq hpq hu a1 a2 hbk h2
          go_wp2_with fail
          go_roundg (xs.length - (k + 1))
          case measure => rw [HG.out]; omega
          case rel => exact ⟨k + 1, by omega, rfl, hB2, HR3.out.congr (fun j _ => HN.out j), by go_num⟩
      · have t1 : decide (q ≤ t) = false := decide_eq_false a1
        have hu : upP x t ((p : Int), q) = false := Bool.eq_false_iff.2 (fun hh => a1 ((up_iff x t p q).1 hh).1)
        have HN := Lib.hid (show ∀ j, Value.bool (airP x t xs k j) = Value.bool (airP x t xs (k + 1) j) from fun j => by rw [airP_not x t xs k j hlt (by rw [hpq]; exact hu)])
        have HR3 := Lib.hid hr1
        clear hrow hr1 hp hq hpq hu a1 hbk h2
        go_wp2_with fail
        go_roundg (xs.length - (k + 1))
        case measure => rw [HG.out]; omega
        case rel => exact ⟨k + 1, by omega, rfl, hB2, HR3.out.congr (fun j _ => HN.out j), by go_num⟩
    · have hkl : k = xs.length := by omega
      subst hkl
      obtain ⟨WO, rfl⟩ : ∃ WO, WO = wr := ⟨wr, rfl⟩
      obtain ⟨F, hF⟩ : ∃ F : Nat → Bool, F = airP x t xs xs.length := ⟨_, rfl⟩
      have HFL := Lib.hid (show airL x t xs = ascN F 60 by rw [hF]; rfl)
      have hl60 := ascN_len F 60
      have hrow2 : WO.rowIs w1.heap.size 105 60 (fun j => .bool (F j)) := by rw [hF]; exact hrow
      have HRw := Lib.hid ((hrow2.alloc (.cells #[] 2)).alloc (.cells #[.slice (some ⟨WO.heap.size, 0, none⟩) 0 0] 26))
      have hix := fun i hi w => run_index_arr (P := Try.prog) (T := 105) (e := 4) (n := 60) Try.underlying105 sizeB1 aggB1 (fun j => .bool (F j)) i hi w
      obtain ⟨CS, hCS⟩ : ∃ CS, ((List.range 60).map fun j => Value.bool (F j)).toArray = CS := ⟨_, rfl⟩
      simp only [hCS] at hix
      have HIx := Lib.hid hix
      obtain ⟨NB, hNB⟩ : ∃ NB, NB = WO.heap.size := ⟨_, rfl⟩
      have o1 : Own (WO.alloc (.cells #[] 2)) NB 2 encInt 1 (.slice (some ⟨WO.heap.size, 0, none⟩) 0 0) [] := by rw [hNB]; exact Own.lit0 (e := encInt) (s := 1) WO (fun _ => rfl) WO.heap.size 2 (Nat.le_refl _)
      have t1 := At1.new (WO.alloc (.cells #[] 2)) 26 (.slice (some ⟨WO.heap.size, 0, none⟩) 0 0)
      rw [World.size_alloc] at t1
      have a1 : Apart (.slice (some ⟨WO.heap.size, 0, none⟩) 0 0) (WO.heap.size + 1) := fun g hg => by simp [Value.ownBlock] at hg; omega
      have o2 := o1.below (bal (Below.refl _ _) (.cells #[.slice (some ⟨WO.heap.size, 0, none⟩) 0 0] 26))
      have hBl : Below NB WO ((WO.alloc (.cells #[] 2)).alloc (.cells #[.slice (some ⟨WO.heap.size, 0, none⟩) 0 0] 26)) := by rw [hNB]; exact bal (bal (Below.refl _ _) _) _
      have H2 := Lib.hid (And.intro t1 (And.intro o2 (And.intro a1 hBl)))
      have HNB := Lib.hid (show w.heap.size ≤ NB ∧ NB ≤ WO.heap.size by have := hbw.size; have := hB1.size; omega)
      have HW1 := Lib.hid (show w1.heap.size ≤ NB by have := hbw.size; omega)
      have HLs := Lib.hid hCS
      have e0 := HRw.out.cell (i := 0) (by decide)
      have e1 := HRw.out.cell (i := 1) (by decide)
      have e2 := HRw.out.cell (i := 2) (by decide)
      have e3 := HRw.out.cell (i := 3) (by decide)
      have e4 := HRw.out.cell (i := 4) (by decide)
      have e5 := HRw.out.cell (i := 5) (by decide)
      have e6 := HRw.out.cell (i := 6) (by decide)
      have e7 := HRw.out.cell (i := 7) (by decide)
      have e8 := HRw.out.cell (i := 8) (by decide)
      have e9 := HRw.out.cell (i := 9) (by decide)
      have e10 := HRw.out.cell (i := 10) (by decide)
      have e11 := HRw.out.cell (i := 11) (by decide)
      have e12 := HRw.out.cell (i := 12) (by decide)
      have e13 := HRw.out.cell (i := 13) (by decide)
      have e14 := HRw.out.cell (i := 14) (by decide)
      have e15 := HRw.out.cell (i := 15) (by decide)
      have e16 := HRw.out.cell (i := 16) (by decide)
      have e17 := HRw.out.cell (i := 17) (by decide)
      have e18 := HRw.out.cell (i := 18) (by decide)
      have e19 := HRw.out.cell (i := 19) (by decide)
      have e20 := HRw.out.cell (i := 20) (by decide)
      have e21 := HRw.out.cell (i := 21) (by decide)
      have e22 := HRw.out.cell (i := 22) (by decide)
      have e23 := HRw.out.cell (i := 23) (by decide)
      have e24 := HRw.out.cell (i := 24) (by decide)
      have e25 := HRw.out.cell (i := 25) (by decide)
      have e26 := HRw.out.cell (i := 26) (by decide)
      have e27 := HRw.out.cell (i := 27) (by decide)
      have e28 := HRw.out.cell (i := 28) (by decide)
      have e29 := HRw.out.cell (i := 29) (by decide)
      have e30 := HRw.out.cell (i := 30) (by decide)
      have e31 := HRw.out.cell (i := 31) (by decide)
      have e32 := HRw.out.cell (i := 32) (by decide)
      have e33 := HRw.out.cell (i := 33) (by decide)
      have e34 := HRw.out.cell (i := 34) (by decide)
      have e35 := HRw.out.cell (i := 35) (by decide)
      have e36 := HRw.out.cell (i := 36) (by decide)
      have e37 := HRw.out.cell (i := 37) (by decide)
      have e38 := HRw.out.cell (i := 38) (by decide)
      have e39 := HRw.out.cell (i := 39) (by decide)
      have e40 := HRw.out.cell (i := 40) (by decide)
      have e41 := HRw.out.cell (i := 41) (by decide)
      have e42 := HRw.out.cell (i := 42) (by decide)
      have e43 := HRw.out.cell (i := 43) (by decide)
      have e44 := HRw.out.cell (i := 44) (by decide)
      have e45 := HRw.out.cell (i := 45) (by decide)
      have e46 := HRw.out.cell (i := 46) (by decide)
      have e47 := HRw.out.cell (i := 47) (by decide)
      have e48 := HRw.out.cell (i := 48) (by decide)
      have e49 := HRw.out.cell (i := 49) (by decide)
      have e50 := HRw.out.cell (i := 50) (by decide)
      have e51 := HRw.out.cell (i := 51) (by decide)
      have e52 := HRw.out.cell (i := 52) (by decide)
      have e53 := HRw.out.cell (i := 53) (by decide)
      have e54 := HRw.out.cell (i := 54) (by decide)
      have e55 := HRw.out.cell (i := 55) (by decide)
      have e56 := HRw.out.cell (i := 56) (by decide)
      have e57 := HRw.out.cell (i := 57) (by decide)
      have e58 := HRw.out.cell (i := 58) (by decide)
      have e59 := HRw.out.cell (i := 59) (by decide)
      clear hrow hrow2 hix hF hNB t1 o1 o2 a1 hBl k1 k0 hbk h2 hCS
      go_wp2_with fail
      refine wp_load_rowIs 105 4 _ rfl w1.heap.size rfl HRw.out Try.underlying105 sizeB60 ?_
      rw [HLs.out]
      go_wp2_with fail
      clear e0 e1 e2 e3 e4 e5 e6 e7 e8 e9 e10 e11 e12 e13 e14 e15 e16 e17 e18 e19 e20 e21 e22 e23 e24 e25 e26 e27 e28 e29 e30 e31 e32 e33 e34 e35 e36 e37 e38 e39 e40 e41 e42 e43 e44 e45 e46 e47 e48 e49 e50 e51 e52 e53 e54 e55 e56 e57 e58 e59
      go_loopg [50] 60 (fun g is wi => ∃ (i : Nat) (v : Value), i ≤ 60 ∧ g = 60 - i ∧ Own wi NB 2 encInt 1 v (ascN F i) ∧ Apart v (WO.heap.size + 1) ∧ At1 wi (WO.heap.size + 1) 26 v ∧ Below NB WO wi ∧ is = .int .i64 i)
      case atStart => exact ⟨0, _, Nat.zero_le _, rfl, H2.out.2.1, H2.out.2.2.1, H2.out.1, H2.out.2.2.2, rfl⟩
      case round =>
        obtain ⟨i, v, hi, hg2, hown, hap, hat, hbi, rfl⟩ := hrel
        have HG2 := Lib.hid hg2
        clear hg2 HRw H2
        have hl := ascN_len F i
        by_cases hl2 : i < 60
        · have i1 : (0 : Int) ≤ (i : Int) := by omega
          have i2 : (i : Int) < 60 := by omega
          have hsucc := ascN_succ F i
          have ix := fun w => HIx.out i hl2 w
          by_cases hf : F i = true
          · rw [if_pos hf] at hsucc
            simp only [hf] at ix
            have HS2 := Lib.hid hsucc
            obtain ⟨A3, n3, c3, rfl⟩ := own_sliceA hown
            have q0 := hat.cell0
            have o2 := hown.below (bal (Below.refl _ _) (.cells #[.int .i64 (i : Int)] 2))
            have ht2 := hat.alloc (.cells #[.int .i64 (i : Int)] 2)
            have hB2 := Below.alloc hbi (Nat.le_trans HNB.out.2 hbi.size) (.cells #[.int .i64 (i : Int)] 2)
            have hNB2 : NB ≤ (wr.alloc (.cells #[.int .i64 (i : Int)] 2)).heap.size := Nat.le_trans HNB.out.2 hB2.size
            have HHat := Lib.hid hat
            have HHown := Lib.hid hown
            clear hsucc hf hat hown
            go_wp2_with (at_builtin; refine app_own_at rfl _ _ 26 rfl NB 2 i0 _ 1 8 Try.underlying26 hi0 hz hsz hby rfl (by decide) _ (ascN F i) rfl o2 ⟨_, 0, none⟩ 1 (i : Int) rfl (cell_one_new _ _ _) (by simp [Value.oneCell']) (by unfold maxLen; omega) (by omega) hNB2 ?_; intro v2 w4 hown2 hg4 hat2; obtain ⟨A5, n5, c5, rfl⟩ := own_sliceA hown2; have Ht4 := Lib.hid (ht2.grown hg4 hap.ne); have ap5 := hap.next (by have := ht2.lt; exact this) hat2; have HB5 := Lib.hid (hB2.trans (below_own (B := NB) o2 hg4 (Nat.le_refl _) hNB2)); have q5 := Ht4.out.cell0; have qf := Ht4.out.frozen 0; have HO5 := Lib.hid hown2; clear hg4 hat2 ht2 o2 hown2)
            go_roundg (60 - (i + 1))
            case measure => rw [HG2.out]; omega
            case rel => exact ⟨i + 1, .slice A5 n5 c5, by omega, rfl, by rw [HS2.out]; exact HO5.out.kept (grown_cs _ (WO.heap.size + 1) 0 _) ap5.or, ap5, Ht4.out.set0 _, HB5.out.setCell (p := ⟨(WO.heap.size + 1), 0, none⟩) (by show NB ≤ (WO.heap.size + 1); have := HNB.out; omega) _, by go_num⟩
          · rw [if_neg hf] at hsucc
            have HS2 := Lib.hid hsucc
            simp only [Bool.eq_false_iff.2 hf] at ix
            have HHat := Lib.hid hat
            have HHown := Lib.hid hown
            clear hsucc hf hat hown
            go_wp2_with fail
            go_roundg (60 - (i + 1))
            case measure => rw [HG2.out]; omega
            case rel => exact ⟨i + 1, v, by omega, rfl, by rw [HS2.out]; exact HHown.out, hap, HHat.out, hbi, by go_num⟩
        · have he : i = 60 := by omega
          subst he
          obtain ⟨A3, c3, hv3, r3, _⟩ := hown.form
          subst hv3
          have q0 := hat.cell0
          have HSA := Lib.hid (sort_air A3 c3 (ascN F 60) (ascN_sorted F 60) (by omega) (WO.heap.size + 1) NB _ hown q0 hap hat.lt)
          have HHat := Lib.hid hat
          have HHown := Lib.hid hown
          clear hat hown
          go_wp2_with (go_at_call 73; refine HSA.out.mono ?_; rintro e w5 ⟨rfl, hb5⟩; have q1 := (HHat.out.below hb5).cell0; have HB5 := Lib.hid hb5; clear hb5)
          go_ret2
          exact RLE.mk (by rw [HM.out, HFL.out]) (by omega) ((HHown.out.below HB5.out).mono HNB.out.1) ((bnext hB1 hbw).trans ((hbi.trans (HB5.out.mono (by have := HNB.out; have := hbi.size; omega))).mono HNB.out.1))
end Go.Proofs.Yteepcnfpdmmnhaa
