/-
  FOver: the places with several letters: OvertypedPlaces, spec and impl.
-/
import Derived.Test.YteepcnfpdmmnhaaFPut
import Derived.Test.YteepcnfpdmmnhaaFStruck
import Derived.Test.YteepcnfpdmmnhaaArrLd
import Derived.Test.YteepcnfpdmmnhaaApps
import Derived.Deep.QuietTactic
import Derived.BigQuiet
namespace Go.Proofs.Yteepcnfpdmmnhaa
open Go.RowKit
set_option linter.unusedVariables false
attribute [local go_sem ↓] Go.wp_at_zero Go.wp_at_succ
set_option linter.unusedSimpArgs false
def cntP (xs : List TStruck) (k j : Nat) : Nat := ((xs.take k).filter fun s => decide (s.1 = (j : Int))).length
theorem cntP_succ (xs : List TStruck) (k j : Nat) (h : k < xs.length) : cntP xs (k + 1) j = cntP xs k j + (if xs[k].1 = (j : Int) then 1 else 0) := by
  unfold cntP
  rw [List.take_succ_eq_append_getElem h, List.filter_append, List.length_append]
  by_cases hq : xs[k].1 = (j : Int)
  · rw [if_pos hq]; simp [hq]
  · rw [if_neg hq]; simp [hq]
theorem cntP_le (xs : List TStruck) (k j : Nat) : cntP xs k j ≤ k := by
  unfold cntP
  have := List.length_filter_le (fun s : TStruck => decide (s.1 = (j : Int))) (xs.take k)
  rw [List.length_take] at this
  omega
def dupP (xs : List TStruck) (k j : Nat) : Bool := decide (1 < cntP xs k j)
def overL (xs : List TStruck) : List Int := ascN (dupP xs xs.length) 301
def dupQ (xs : List TStruck) (i k p j : Nat) : Bool := dupP xs i j || (p == j && decide (0 < cntP xs k j))
theorem dupQ_zero (xs : List TStruck) (i p j : Nat) : dupQ xs i 0 p j = dupP xs i j := by
  unfold dupQ cntP; simp
theorem dupQ_same (xs : List TStruck) (i k p j : Nat) (h : k < xs.length) (hp : xs[k].1 = (p : Int)) : dupQ xs i (k + 1) p j = (dupQ xs i k p j || p == j) := by
  unfold dupQ
  rw [cntP_succ xs k j h]
  by_cases hj : p = j
  · subst hj
    rw [if_pos hp]
    simp
  · have : (p == j) = false := by rw [beq_eq_false_iff_ne]; exact hj
    rw [this]; simp
theorem dupQ_other (xs : List TStruck) (i k p j : Nat) (h : k < xs.length) (hp : ¬ xs[k].1 = (p : Int)) : dupQ xs i (k + 1) p j = dupQ xs i k p j := by
  unfold dupQ
  rw [cntP_succ xs k j h]
  by_cases hj : p = j
  · subst hj
    rw [if_neg hp]; simp
  · have : (p == j) = false := by rw [beq_eq_false_iff_ne]; exact hj
    rw [this]; simp
theorem dupQ_end (xs : List TStruck) (i p j : Nat) (h : i < xs.length) (hp : xs[i].1 = (p : Int)) : dupQ xs i i p j = dupP xs (i + 1) j := by
  unfold dupQ dupP
  rw [cntP_succ xs i j h, hp]
  by_cases hj : p = j
  · subst hj
    rw [if_pos rfl]
    simp
    omega
  · have h1 : (p == j) = false := by rw [beq_eq_false_iff_ne]; exact hj
    have h2 : ¬ ((p : Int) = (j : Int)) := by omega
    rw [h1, if_neg h2]; simp
noncomputable def M_OvertypedPlaces (xs : List TStruck) : List Int × Int := by
  classical exact if StrucksOk xs then (overL xs, 0) else ([], 1)
theorem M_over_yes {xs : List TStruck} (h : StrucksOk xs) : M_OvertypedPlaces xs = (overL xs, 0) := by unfold M_OvertypedPlaces; rw [if_pos h]
theorem M_over_no {xs : List TStruck} (h : ¬ StrucksOk xs) : M_OvertypedPlaces xs = ([], 1) := by unfold M_OvertypedPlaces; rw [if_neg h]
theorem own_sliceP {α : Type} {w : World} {base : Nat} {E : TypeId} {e : α → List Value} {s : Nat} {v : Value} {xs : List α} (h : Own w base E e s v xs) : ∃ A n c, v = .slice A n c := by
  obtain ⟨A, c, hv, _⟩ := h.form
  exact ⟨A, _, c, hv⟩
theorem place_nat {xs : List TStruck} (h : StrucksOk xs) (k : Nat) (hk : k < xs.length) : ∃ p : Nat, xs[k].1 = (p : Int) ∧ p < 301 := by
  have := (h.2 _ (List.getElem_mem hk)).1
  exact ⟨xs[k].1.toNat, by omega, by omega⟩
set_option maxHeartbeats 3200000 in
set_option maxRecDepth 10000 in
theorem spec_OvertypedPlaces_any (A : Option Addr) (c : Nat) (xs : List TStruck) (hx : xs.length ≤ 1048576) (hk : ∀ x ∈ xs, KStruck x) (w : World) (rx : Row w A encStruck 2 xs) :
    Calls Try.prog 38 #[.slice A xs.length c] w (RLE encInt 1 2 (M_OvertypedPlaces xs) w) := by
  obtain ⟨i0, hi0, hz, hsz, hby⟩ := info_parts info_Int64S
  by_cases h : StrucksOk xs
  case neg =>
    have HM := Lib.hid (M_over_no h)
    go_enter Try.func38, Try.ntmps38
    go_wp2_with (go_at_call 91; refine (RBb.no (l04Struck_any _ _ xs hx hk _ rx) h).mono ?_; rintro e w1 ⟨rfl, hb1⟩)
    go_ret2
    exact RLE.no (fun _ => rfl) HM.out.symm hb1
  have HM := Lib.hid (M_over_yes h)
  have HS := Lib.hid h
  have h200 := h.1
  have hl301 := ascN_len (dupP xs xs.length) 301
  have HL := Lib.hid (show (overL xs).length ≤ 1048576 by unfold overL; omega)
  clear hl301
  go_enter Try.func38, Try.ntmps38
  go_wp2_with (go_at_call 91; refine (RBb.yes (l04Struck_any _ _ xs hx hk _ rx) h).mono ?_; rintro e w1 ⟨rfl, hb1⟩; have o1 := Own.lit0 (e := encInt) (s := 1) w1 (fun _ => rfl) w1.heap.size 2 (Nat.le_refl _); have hBl : Below w1.heap.size w1 (w1.alloc (.cells #[] 2)) := bal (Below.refl _ _) _)
  go_loopg [4, 5] xs.length (fun g vs is wr => ∃ i : Nat, i ≤ xs.length ∧ g = xs.length - i ∧ Own wr w1.heap.size 2 encInt 1 vs (ascN (dupP xs i) 301) ∧ Below w1.heap.size w1 wr ∧ is = .int .i64 i)
  case atStart => exact ⟨0, Nat.zero_le _, rfl, by rw [show ascN (dupP xs 0) 301 = [] from (ascN_congr 301 (fun j _ => by unfold dupP cntP; simp)).trans (ascN_none 301)]; exact o1, hBl, rfl⟩
  case round =>
    obtain ⟨i, hi, hg, hown, hbw, rfl⟩ := hrel
    have HG := Lib.hid hg
    clear hg h
    by_cases hlt : i < xs.length
    · obtain ⟨p, hp, hp3⟩ := place_nat HS.out i hlt
      have i1 : (0 : Int) ≤ (i : Int) := by omega
      have i2 : (i : Int) < (xs.length : Int) := by omega
      have HP := Lib.hid hp
      clear hp
      go_wp2_with fail
      go_loopg [4, 6] i (fun g2 vs ks wi => ∃ k : Nat, k ≤ i ∧ g2 = i - k ∧ Own wi w1.heap.size 2 encInt 1 vs (ascN (dupQ xs i k p) 301) ∧ Below w1.heap.size w1 wi ∧ ks = .int .i64 k)
      case atStart => exact ⟨0, Nat.zero_le _, rfl, by rw [ascN_congr 301 (fun j _ => dupQ_zero xs i p j)]; exact hown, hbw, rfl⟩
      case round =>
        obtain ⟨k, hkk, hg2, hown2, hbi, rfl⟩ := hrel
        have HG2 := Lib.hid hg2
        clear hg2 hown hbw
        by_cases hlt2 : k < i
        · have hkx : k < xs.length := by omega
          obtain ⟨b, off, hA, hb, c0, _⟩ := (rx.below (bnext hb1 hbi)).at2 (f := fun x : TStruck => .int .i64 x.1) (g := fun x : TStruck => .string x.2) (k := i) hlt
          obtain ⟨b', off', hA', hb', e0, _⟩ := (rx.below (bnext hb1 hbi)).at2 (f := fun x : TStruck => .int .i64 x.1) (g := fun x : TStruck => .string x.2) (k := k) hkx
          rw [hA] at hA'
          simp only [Option.some.injEq, Addr.mk.injEq, and_true] at hA'
          obtain ⟨rfl, rfl⟩ := hA'
          subst hA
          rw [HP.out] at c0
          obtain ⟨q, hq, hq3⟩ := place_nat HS.out k hkx
          rw [hq] at e0
          have j1 : (0 : Int) ≤ (k : Int) := by omega
          have j2 : (k : Int) < (xs.length : Int) := by omega
          obtain ⟨A2, n2, c2, rfl⟩ := own_sliceP hown2
          have hll := ascN_len (dupQ xs i k p) 301
          by_cases hpq : q = p
          · subst hpq
            have t1 : (((q : Nat) : Int) == ((q : Nat) : Int)) = true := by simp
            have HN := Lib.hid (show insI (ascN (dupQ xs i k q) 301) (q : Int) = ascN (dupQ xs i (k + 1) q) 301 by rw [ascN_ins _ 301 q hp3]; exact ascN_congr 301 (fun j _ => (dupQ_same xs i k q j hkx hq).symm))
            obtain ⟨A5, c5, hv5, r5, _⟩ := hown2.form
            have PC := fun W (r : Row W A5 encInt 1 (ascN (dupQ xs i k q) 301)) => l00Put_any A5 c5 (ascN (dupQ xs i k q) 301) (by omega) (q : Int) W r
            rw [← hv5] at PC
            have HPC := Lib.hid PC
            have hr5 := Lib.hid (r5.below (bdrewN (Below.refl _ _) 0))
            clear hq PC hv5
            go_wp2_with (go_quiet (fail))
            go_wp2_with (go_at_call 69; refine (HPC.out _ (r5.below (bdrewN (Below.refl _ _) _))).mono ?_; rintro e w5 ⟨v5, rfl, ho5, hb5⟩; have HO5 := Lib.hid ho5; clear ho5)
            go_roundg (i - (k + 1))
            case measure => rw [HG2.out]; omega
            case rel => exact ⟨k + 1, by omega, rfl, by rw [← HN.out]; exact HO5.out.mono hbi.size, bnext hbi (bundrewN hb5), by go_num⟩
          · have t1 : (((q : Nat) : Int) == ((p : Nat) : Int)) = false := by rw [beq_eq_false_iff_ne]; omega
            have HN := Lib.hid (show ascN (dupQ xs i (k + 1) p) 301 = ascN (dupQ xs i k p) 301 from ascN_congr 301 (fun j _ => dupQ_other xs i k p j hkx (by rw [hq]; omega)))
            clear hq hpq
            go_wp2_with (go_quiet (fail))
            go_wp2_with fail
            go_roundg (i - (k + 1))
            case measure => rw [HG2.out]; omega
            case rel => exact ⟨k + 1, by omega, rfl, by rw [HN.out]; exact hown2.below (bdrewN (Below.refl _ _) _), bdrewN hbi _, by go_num⟩
        · have hki : k = i := by omega
          subst hki
          have HN := Lib.hid (show ascN (dupQ xs k k p) 301 = ascN (dupP xs (k + 1)) 301 from ascN_congr 301 (fun j _ => dupQ_end xs k p j hlt HP.out))
          go_wp2_with fail
          go_roundg (xs.length - (k + 1))
          case measure => rw [HG.out]; omega
          case rel => exact ⟨k + 1, by omega, rfl, by rw [← HN.out]; exact hown2, hbi, by go_num⟩
    · have hil : i = xs.length := by omega
      subst hil
      go_wp2_with fail
      go_ret2
      exact RLE.mk HM.out.symm HL.out (hown.mono hb1.size) (bnext hb1 hbw)
theorem zerosO : Try.zeroCells130.toList = List.replicate 301 (.int .i64 0) := by kernel_rfl
theorem zerosO_one : Try.zeroCells130.toList.all (·.oneCell') = true := by kernel_rfl
theorem sizeO (w : World) : (sizeOf 3).run Try.prog w = .ok 1 w := by kernel_rfl
theorem sizeA : (Try.prog.info? 130).map (·.size) = some 301 := by kernel_rfl
theorem aggO (w : World) : (isAgg 3).run Try.prog w = .ok false w := by kernel_rfl
set_option maxHeartbeats 3200000 in
set_option maxRecDepth 10000 in
theorem impl_OvertypedPlaces_any (A : Option Addr) (c : Nat) (xs : List TStruck) (hx : xs.length ≤ 1048576) (hk : ∀ x ∈ xs, KStruck x) (w : World) (rx : Row w A encStruck 2 xs) :
    Calls Try.prog 40 #[.slice A xs.length c] w (RLE encInt 1 2 (M_OvertypedPlaces xs) w) := by
  obtain ⟨i0, hi0, hz, hsz, hby⟩ := info_parts info_Int64S
  by_cases h : StrucksOk xs
  case neg =>
    have HM := Lib.hid (M_over_no h)
    go_enter Try.func40, Try.ntmps40
    go_wp2_with (go_at_call 93; refine (RBb.no (validStruck_any _ _ xs hx hk _ rx) h).mono ?_; rintro e w1 ⟨rfl, hb1⟩)
    go_ret2
    exact RLE.no (fun _ => rfl) HM.out.symm hb1
  have HM := Lib.hid (M_over_yes h)
  have HS := Lib.hid h
  have h200 := h.1
  have hl301 := ascN_len (dupP xs xs.length) 301
  have HL := Lib.hid (show (overL xs).length ≤ 1048576 by unfold overL; omega)
  clear hl301
  go_enter Try.func40, Try.ntmps40
  go_wp2_with (go_at_call 93; refine (RBb.yes (validStruck_any _ _ xs hx hk _ rx) h).mono ?_; rintro e w1 ⟨rfl, hb1⟩; have hst := store_zero (P := Try.prog) w1 Try.zeroCells130 130 zerosO_one; have HR := Lib.hid (rowIs_of_list w1 Try.zeroCells130 130 301 (.int .i64 0) zerosO); have hbL := bal hb1 (.cells Try.zeroCells130 130))
  have hsz1 := hb1.size
  go_loopg [16] xs.length (fun g is wr => ∃ k : Nat, k ≤ xs.length ∧ g = xs.length - k ∧ Below w.heap.size w wr ∧ wr.rowIs w1.heap.size 130 301 (fun j => .int .i64 ((cntP xs k j : Nat) : Int)) ∧ is = .int .i64 k)
  case atStart => exact ⟨0, Nat.zero_le _, rfl, hbL, HR.out.congr (fun j _ => rfl), rfl⟩
  case round =>
    obtain ⟨k, hkk, hg, hbw, hrow, rfl⟩ := hrel
    have HG := Lib.hid hg
    clear hg hst HR hbL h
    by_cases hlt : k < xs.length
    · obtain ⟨p, hp, hp3⟩ := place_nat HS.out k hlt
      obtain ⟨b, off, hA, hb, c0, c1⟩ := (rx.below hbw).at2 (f := fun x : TStruck => .int .i64 x.1) (g := fun x : TStruck => .string x.2) (k := k) hlt
      subst hA
      rw [hp] at c0
      obtain ⟨l, hl⟩ : ∃ l, xs[k].2 = l := ⟨_, rfl⟩
      rw [hl] at c1
      have i1 : (0 : Int) ≤ (k : Int) := by omega
      have i2 : (k : Int) < (xs.length : Int) := by omega
      have hB2 := bal hbw (.cells #[.int .i64 (p : Int), .string l] 128)
      have hr1 := hrow.alloc (.cells #[.int .i64 (p : Int), .string l] 128)
      have hne : w1.heap.size ≠ wr.heap.size := Nat.ne_of_lt hrow.lt
      have cell1 := hr1.cell (i := p) hp3
      have frz1 := hr1.frozen p
      have hcl := cntP_le xs k p
      have ww : IntKind.i64.wrap (((cntP xs k p : Nat) : Int) + 1) = ((cntP xs k p : Nat) : Int) + 1 := IntWalk.i64_in _ (by omega)
      have HR3 := Lib.hid (hr1.set p (.int .i64 (((cntP xs k p : Nat) : Int) + 1)))
      have HN := Lib.hid (show ∀ j, (if j = p then Value.int .i64 (((cntP xs k p : Nat) : Int) + 1) else Value.int .i64 ((cntP xs k j : Nat) : Int)) = Value.int .i64 ((cntP xs (k + 1) j : Nat) : Int) from fun j => by
        rw [cntP_succ xs k j hlt, hp]
        by_cases q1 : j = p
        · subst q1; rw [if_pos rfl, if_pos rfl]; simp
        · rw [if_neg q1, if_neg (by omega)]; simp)
      have p1 : (0 : Int) ≤ (p : Int) := by omega
      have p2 : (p : Int) < 301 := by omega
      clear hrow hr1 hp hl
      go_wp2_with fail
      go_roundg (xs.length - (k + 1))
      case measure => rw [HG.out]; omega
      case rel => exact ⟨k + 1, by omega, rfl, hB2.setCell hsz1 _, HR3.out.congr (fun j _ => HN.out j), by go_num⟩
    · have hkl : k = xs.length := by omega
      subst hkl
      obtain ⟨F, hF⟩ : ∃ F : Nat → Int, F = fun j => ((cntP xs xs.length j : Nat) : Int) := ⟨_, rfl⟩
      have hFd : ∀ j, decide (1 < F j) = dupP xs xs.length j := fun j => by rw [hF]; unfold dupP; rw [decide_eq_decide]; show (1 : Int) < ((cntP xs xs.length j : Nat) : Int) ↔ _; omega
      have hrow2 : wr.rowIs w1.heap.size 130 301 (fun j => .int .i64 (F j)) := by rw [hF]; exact hrow
      have HRw := Lib.hid (hrow2.alloc (.cells #[] 2))
      have hix := fun i hi w => run_index_arr (P := Try.prog) (T := 130) (e := 3) (n := 301) Try.underlying130 sizeO aggO (fun j => .int .i64 (F j)) i hi w
      obtain ⟨CS, hCS⟩ : ∃ CS, ((List.range 301).map fun j => Value.int .i64 (F j)).toArray = CS := ⟨_, rfl⟩
      simp only [hCS] at hix
      have HIx := Lib.hid hix
      have HFd := Lib.hid hFd
      obtain ⟨NB, hNB⟩ : ∃ NB, NB = wr.heap.size := ⟨_, rfl⟩
      have hNBle : NB ≤ wr.heap.size := by omega
      have o1 : Own (wr.alloc (.cells #[] 2)) NB 2 encInt 1 (.slice (some ⟨wr.heap.size, 0, none⟩) 0 0) [] := by rw [hNB]; exact Own.lit0 (e := encInt) (s := 1) wr (fun _ => rfl) wr.heap.size 2 (Nat.le_refl _)
      have hBl : Below NB wr (wr.alloc (.cells #[] 2)) := by rw [hNB]; exact bal (Below.refl _ _) _
      have HNB := Lib.hid (show w.heap.size ≤ NB by have := hbw.size; omega)
      clear hNB
      have HCS := Lib.hid hCS
      clear hrow hrow2 hix hFd hF hCS
      go_wp2_with fail
      refine wp_load_rowIs 130 3 _ rfl w1.heap.size rfl HRw.out Try.underlying130 sizeA ?_
      rw [HCS.out]
      go_wp2_with fail
      go_loopg [7, 29] 301 (fun g vs is wi => ∃ i : Nat, i ≤ 301 ∧ g = 301 - i ∧ Own wi NB 2 encInt 1 vs (ascN (dupP xs xs.length) i) ∧ Below NB wr wi ∧ is = .int .i64 i)
      case atStart => exact ⟨0, Nat.zero_le _, rfl, o1, hBl, rfl⟩
      case round =>
        obtain ⟨i, hi, hg2, hown, hbi, rfl⟩ := hrel
        have HG2 := Lib.hid hg2
        clear hg2 HRw
        have hl := ascN_len (dupP xs xs.length) i
        by_cases hl2 : i < 301
        · have i1 : (0 : Int) ≤ (i : Int) := by omega
          have i2 : (i : Int) < 301 := by omega
          have hsucc := ascN_succ (dupP xs xs.length) i
          have ix := fun w => HIx.out i hl2 w
          have hdd := HFd.out i
          by_cases hf : dupP xs xs.length i = true
          · rw [if_pos hf] at hsucc
            rw [hf] at hdd
            have HS2 := Lib.hid hsucc
            have o2 := hown.below (bal (Below.refl _ _) (.cells #[.int .i64 (i : Int)] 2))
            have hB2 := Below.alloc hbi (Nat.le_trans hNBle hbi.size) (.cells #[.int .i64 (i : Int)] 2)
            have hNB2 := Nat.le_trans hNBle hB2.size
            clear hsucc hf
            go_wp2_with (at_builtin; refine app_own rfl _ _ 26 rfl NB 2 i0 _ 1 8 Try.underlying26 hi0 hz hsz hby rfl (by decide) _ (ascN (dupP xs xs.length) i) rfl o2 ⟨_, 0, none⟩ 1 (i : Int) rfl (cell_one_new _ _ _) (by simp [Value.oneCell']) (by unfold maxLen; omega) (by omega) hNB2 ?_; intro v2 w4 hown2 hg2)
            go_roundg (301 - (i + 1))
            case measure => rw [HG2.out]; omega
            case rel =>
              have hb7 := below_own (B := NB) o2 hg2 (Nat.le_refl _) hNB2
              exact ⟨i + 1, by omega, rfl, by rw [HS2.out]; exact hown2, hB2.trans hb7, by go_num⟩
          · rw [if_neg hf] at hsucc
            have HS2 := Lib.hid hsucc
            rw [Bool.eq_false_iff.2 hf] at hdd
            clear hsucc hf
            go_wp2_with fail
            go_roundg (301 - (i + 1))
            case measure => rw [HG2.out]; omega
            case rel => exact ⟨i + 1, by omega, rfl, by rw [HS2.out]; exact hown, hbi, by go_num⟩
        · have he : i = 301 := by omega
          subst he
          go_wp2_with fail
          go_ret2
          exact RLE.mk HM.out.symm HL.out (hown.mono HNB.out) (hbw.trans (hbi.mono HNB.out))
end Go.Proofs.Yteepcnfpdmmnhaa
