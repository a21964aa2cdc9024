/-
  FMirL: a layout for the other hand: MirrorLayout, spec and impl.
-/
import Derived.Test.YteepcnfpdmmnhaaFLayOk
import Derived.Test.YteepcnfpdmmnhaaFAsc
import Derived.Test.YteepcnfpdmmnhaaBlk1
import Derived.Test.YteepcnfpdmmnhaaTLayout
import Derived.Deep.QuietTactic
namespace Go.Proofs.Yteepcnfpdmmnhaa
open Go.RowKit
set_option linter.unusedVariables false
attribute [local go_sem ↓] Go.wp_at_zero Go.wp_at_succ
set_option linter.unusedSimpArgs false
/-- A layout of the call's own and a code. -/
def RLY (E : TypeId) (m : List ByteArray × Int) (w : World) (e : Ending) (w' : World) : Prop :=
  ∃ (v : Value) (ys : List ByteArray) (n : Int), e = .returned (.tuple #[.agg #[v], .int .i64 n]) ∧ (ys, n) = m ∧ ys.length ≤ 1048576 ∧ Own w' w.heap.size E encStr 1 v ys ∧ Below w.heap.size w w'
def revN (s : ByteArray) (i : Nat) : List Int := (s.data.toList.drop i).reverse.map fun b => (b.toNat : Int)
def revB (s : ByteArray) : ByteArray := ⟨s.data.toList.reverse.toArray⟩
theorem revN_end (s : ByteArray) : revN s s.size = [] := by
  unfold revN
  rw [List.drop_of_length_le (by simp)]; rfl
theorem revN_step (s : ByteArray) (j : Nat) (h : j < s.size) : revN s j = revN s (j + 1) ++ [(s[j].toNat : Int)] := by
  unfold revN
  rw [List.drop_eq_getElem_cons (by simpa using h), List.reverse_cons, List.map_append]; rfl
theorem revN_len (s : ByteArray) (i : Nat) : (revN s i).length ≤ s.size := by
  unfold revN
  simp
theorem revN_str (s : ByteArray) : strOfNums (revN s 0) = revB s := by
  unfold strOfNums revN revB
  rw [List.drop_zero, List.map_map]
  congr 1
  congr 1
  conv => rhs; rw [← List.map_id s.data.toList.reverse]
  apply List.map_congr_left
  intro b _
  simp
def mirY (xs : List ByteArray) : List ByteArray := xs.map revB
theorem mirY_take (xs : List ByteArray) (k : Nat) (h : k < xs.length) : mirY (xs.take (k + 1)) = mirY (xs.take k) ++ [revB xs[k]] := by
  unfold mirY
  rw [List.take_succ_eq_append_getElem h, List.map_append]; rfl
open Classical in
noncomputable def M_MirrorLayout (xs : List ByteArray) : List ByteArray × Int := if LayoutOk xs then (mirY xs, 0) else ([], 1)
set_option maxHeartbeats 6400000 in
set_option maxRecDepth 10000 in
theorem spec_MirrorLayout_any (A : Option Addr) (c : Nat) (xs : List ByteArray) (hx : xs.length ≤ 1048576) (hk : ∀ x ∈ xs, KStringS x) (w : World) (rx : Row w A encStr 1 xs) :
    Calls Try.prog 34 #[.agg #[.slice A xs.length c]] w (RLY 9 (M_MirrorLayout xs) w) := by
  obtain ⟨i0, hi0, hz, hsz, hby⟩ := info_parts infoY
  obtain ⟨i1, hi1, hz1, hsz1, hby1⟩ := info_parts info_StringS
  obtain ⟨W0, hW0⟩ : ∃ W0, W0 = (w.alloc (.cells #[.slice A xs.length c] 46)).alloc (.cells #[.slice none 0 0] 46) := ⟨_, rfl⟩
  have hB0 : Below w.heap.size w W0 := by rw [hW0]; exact bal (bal (Below.refl _ _) _) _
  have k0 : At1 W0 w.heap.size 46 (.slice A xs.length c) := by rw [hW0]; exact (At1.new w _ _).alloc _
  have r0 : At1 W0 (w.heap.size + 1) 46 (.slice none 0 0) := by
    rw [hW0]
    have := At1.new (w.alloc (.cells #[.slice A xs.length c] 46)) 46 (.slice none 0 0)
    rwa [World.size_alloc] at this
  have HW := Lib.hid hW0
  have Hs0 := Lib.hid (show W0.heap.size = w.heap.size + 1 + 1 by rw [hW0]; simp)
  clear hW0
  by_cases h : LayoutOk xs
  case neg =>
    have HM := Lib.hid (show M_MirrorLayout xs = ([], 1) by unfold M_MirrorLayout; rw [if_neg h])
    have cq := k0.cell0
    go_enter Try.func34, Try.ntmps34
    go_wp2_with fail
    rw [← HW.out]
    refine (RBb.no (l06Ok_any w.heap.size A c xs hx hk _ (rx.below hB0) k0.lt k0.cell0) h).mono ?_; rintro e w1 ⟨rfl, hb1⟩
    have k1 := k0.below hb1
    have r1 := r0.below hb1
    have hB1 := bnext hB0 hb1
    have e0 := r1.cell0
    have e1 := r1.frozen 0
    have x1 := (r1.set0 (.slice none 0 0)).cell0
    go_wp2_with fail
    refine bodyPost_ret (v := .tuple #[.agg #[.slice none 0 0], .int .i64 1]) (by simp [results, Try.results34, go_sem, x1]) rfl ⟨.slice none 0 0, [], 1, rfl, HM.out.symm, by simp, (Own.nilv (e := encStr) (s := 1) _ (fun _ => rfl) w.heap.size 9), bst hB1 (p := ⟨w.heap.size + 1, 0, none⟩) (by show w.heap.size ≤ w.heap.size + 1; omega) _⟩
  have HM := Lib.hid (show M_MirrorLayout xs = (mirY xs, 0) by unfold M_MirrorLayout; rw [if_pos h])
  have h4 := h.1.2
  have HRow := Lib.hid h.2.1
  have HL := Lib.hid (show (mirY xs).length ≤ 1048576 by unfold mirY; rw [List.length_map]; omega)
  have cq := k0.cell0
  go_enter Try.func34, Try.ntmps34
  go_wp2_with fail
  rw [← HW.out]
  refine (RBb.yes (l06Ok_any w.heap.size A c xs hx hk _ (rx.below hB0) k0.lt k0.cell0) h).mono ?_; rintro e w1 ⟨rfl, hb1⟩
  have k1 := k0.below hb1
  have r1 := r0.below hb1
  have hB1 := bnext hB0 hb1
  obtain ⟨BS, hBS⟩ : ∃ BS, BS = w1.heap.size := ⟨_, rfl⟩
  have o1 : Own (w1.alloc (.cells #[] 9)) BS 9 encStr 1 (.slice (some ⟨w1.heap.size, 0, none⟩) 0 0) [] := by rw [hBS]; exact Own.lit0 (e := encStr) (s := 1) w1 (fun _ => rfl) w1.heap.size 9 (Nat.le_refl _)
  have t1 := At1.new (w1.alloc (.cells #[] 9)) 46 (.slice (some ⟨w1.heap.size, 0, none⟩) 0 0)
  rw [World.size_alloc] at t1
  have a1 : Apart (.slice (some ⟨w1.heap.size, 0, none⟩) 0 0) (w1.heap.size + 1) := fun g hg => by simp [Value.ownBlock] at hg; omega
  have o2 := o1.below (bal (Below.refl _ _) (.cells #[.slice (some ⟨w1.heap.size, 0, none⟩) 0 0] 46))
  have k2 := (k1.alloc (.cells #[] 9)).alloc (.cells #[.slice (some ⟨w1.heap.size, 0, none⟩) 0 0] 46)
  have r2 := (r1.alloc (.cells #[] 9)).alloc (.cells #[.slice (some ⟨w1.heap.size, 0, none⟩) 0 0] 46)
  have hB2 := bal (bal hB1 (.cells #[] 9)) (.cells #[.slice (some ⟨w1.heap.size, 0, none⟩) 0 0] 46)
  have hw1 : w.heap.size + 1 + 1 ≤ w1.heap.size := by have := hb1.size; rw [Hs0.out] at this; exact this
  rw [← hBS] at hw1
  have HNB := Lib.hid (show BS ≤ (w1.heap.size + 1) by omega)
  have kc := k2.cell0
  have H2 := Lib.hid (And.intro t1 (And.intro o2 (And.intro a1 (And.intro k2 (And.intro r2 hB2)))))
  have Hw1 := Lib.hid hw1
  clear t1 o2 a1 k2 r2 hB2 o1 hw1 hBS k1 r1 k0 r0 h
  go_wp2_with fail
  go_loopg [5] xs.length (fun g is wr => ∃ (i : Nat) (v : Value), i ≤ xs.length ∧ g = xs.length - i ∧ Own wr BS 9 encStr 1 v (mirY (xs.take i)) ∧ Apart v (w1.heap.size + 1) ∧ At1 wr (w1.heap.size + 1) 46 v ∧ At1 wr w.heap.size 46 (.slice A xs.length c) ∧ At1 wr (w.heap.size + 1) 46 (.slice none 0 0) ∧ Below w.heap.size w wr ∧ is = .int .i64 i)
  case atStart =>
    obtain ⟨t1, o2, a1, k2, r2, hB2⟩ := H2.out
    exact ⟨0, _, Nat.zero_le _, rfl, o2, a1, t1, k2, r2, hB2, rfl⟩
  case round =>
    obtain ⟨i, v, hii, hg, hown, hap, ht, hkp, hrr, hbw, rfl⟩ := hrel
    obtain ⟨WO, rfl⟩ : ∃ WO, WO = wr := ⟨wr, rfl⟩
    obtain ⟨A2, n2, c2, rfl⟩ := own_slice hown
    have HG := Lib.hid hg
    clear hg H2 hB1 hb1 hB0 kc
    have d0 := ht.cell0
    have f0 := ht.frozen 0
    have d1 := hkp.cell0
    have e0 := hrr.cell0
    have ef := hrr.frozen 0
    by_cases hlt : i < xs.length
    · obtain ⟨b, off, hA, hb, c0⟩ := (rx.below hbw).at1 (f := fun x : ByteArray => .string x) (k := i) hlt
      have htk := mirY_take xs i hlt
      have hro := HRow.out _ (List.getElem_mem hlt)
      obtain ⟨S, hS⟩ : ∃ S, xs[i] = S := ⟨_, rfl⟩
      rw [hS] at c0 htk hro
      have hs12 : S.size ≤ 12 := hro.2.1
      have HTK := Lib.hid htk
      have Hb := Lib.hid hb
      have Hrx := Lib.hid (rx.below hbw)
      have i1' : (0 : Int) ≤ (i : Int) := by omega
      have i2' : (i : Int) < (xs.length : Int) := by omega
      have zs : IntKind.i64.wrap ((S.size : Int) - 1) = (S.size : Int) - 1 := IntWalk.i64_in _ (by omega)
      have oy := Own.lit0 (e := encY) (s := 1) WO (fun _ => rfl) WO.heap.size 5 (Nat.le_refl _)
      have hBy : Below WO.heap.size WO (WO.alloc (.cells #[] 5)) := bal (Below.refl _ _) _
      have d1y := (hkp.alloc (.cells #[] 5)).cell0
      have c0y := (hBy.cell (p := ⟨b, _, none⟩) hb).trans c0
      subst hA
      clear hro htk hS
      go_wp2_with fail
      go_loopg [6, 7] S.size (fun g2 ys cs wi => ∃ j : Nat, j ≤ S.size ∧ g2 = j ∧ Own wi WO.heap.size 5 encY 1 ys (revN S j) ∧ Below WO.heap.size WO wi ∧ cs = .int .i64 ((j : Int) - 1))
      case atStart => exact ⟨S.size, Nat.le_refl _, rfl, by rw [revN_end]; exact oy, hBy, rfl⟩
      case round =>
        obtain ⟨j, hj, hg2, hownY, hbi, rfl⟩ := hrel
        have HG2 := Lib.hid hg2
        clear hg2 oy hBy
        have hlY := revN_len S j
        have ht2 := ht.below hbi
        have hkp2 := hkp.below hbi
        have hrr2 := hrr.below hbi
        have d0' := ht2.cell0
        have f0' := ht2.frozen 0
        have d1' := hkp2.cell0
        have c0' := (hbi.cell (p := ⟨b, _, none⟩) Hb.out).trans c0
        cases j with
        | zero =>
          have hcv := conv_ownY (P := Try.prog) hownY 121 5 Try.underlying121 Try.underlying5 9 Try.underlying9
          rw [revN_str] at hcv
          obtain ⟨T, hT⟩ : ∃ T, revB S = T := ⟨_, rfl⟩
          rw [hT] at hcv
          have HT := Lib.hid hT
          obtain ⟨AY, nY, cY, rfl⟩ := own_slice hownY
          have ow2 := (hown.below hbi).below (bal (Below.refl _ _) (.cells #[.string T] 9))
          have hb2 := bal (bnext hbw hbi) (.cells #[.string T] 9)
          have ht3 := ht2.alloc (.cells #[.string T] 9)
          have hkp3 := hkp2.alloc (.cells #[.string T] 9)
          have hrr3 := hrr2.alloc (.cells #[.string T] 9)
          have hbs2 : BS ≤ (wr.alloc (.cells #[.string T] 9)).heap.size := by have := ht3.lt; have := HNB.out; omega
          have hlm : (mirY (xs.take i)).length ≤ 4 := by unfold mirY; rw [List.length_map, List.length_take]; omega
          have z0 : decide ((0 : Int) ≤ ((0 : Nat) : Int) - 1) = false := by decide
          clear hT
          go_wp2_with (at_builtin; refine app_own_at rfl _ _ 44 rfl BS 9 i1 _ 1 16 Try.underlying44 hi1 hz1 hsz1 hby1 rfl (by decide) _ (mirY (xs.take i)) rfl ow2 ⟨wr.heap.size, 0, none⟩ 1 (T : ByteArray) rfl (cell_one_new _ _ _) (by simp [Value.oneCell']) (by unfold maxLen; omega) (by omega) hbs2 ?_; intro v2 w2 hown2 hg5 hat2; obtain ⟨A5, n5, c5, rfl⟩ := own_slice hown2; have Ht4 := Lib.hid (ht3.grown hg5 hap.ne); have Hk4 := Lib.hid (hkp3.grown hg5 (own_ne ow2 (by have := Hw1.out; omega))); have Hr4 := Lib.hid (hrr3.grown hg5 (own_ne ow2 (by have := Hw1.out; omega))); have ap5 := hap.next (by have := ht3.lt; exact this) hat2; have HB5 := Lib.hid (hb2.trans (below_own (B := w.heap.size) ow2 hg5 (by have := Hw1.out; omega) hb2.size)); have q0 := Ht4.out.cell0; have qf := Ht4.out.frozen 0; have HO5 := Lib.hid hown2; clear hg5 hat2 ht3 hkp3 hrr3 ow2)
          go_roundg (xs.length - (i + 1))
          case measure => rw [HG.out]; omega
          case rel =>
            refine ⟨i + 1, .slice A5 n5 c5, by omega, rfl, ?_, ap5, Ht4.out.set0 _, Hk4.out.setOther (w1.heap.size + 1) 0 _ (by have := HNB.out; have := Hw1.out; omega), Hr4.out.setOther (w1.heap.size + 1) 0 _ (by have := HNB.out; have := Hw1.out; omega), bst HB5.out (p := ⟨(w1.heap.size + 1), 0, none⟩) (by show w.heap.size ≤ (w1.heap.size + 1); have := HNB.out; have := Hw1.out; omega) _, by go_num⟩
            rw [HTK.out, HT.out]
            exact HO5.out.kept (grown_cs _ (w1.heap.size + 1) 0 _) ap5.or
        | succ j =>
          have hjl : j < S.size := by omega
          have hst := revN_step S j hjl
          have z1 : ((j + 1 : Nat) : Int) - 1 = (j : Int) := by omega
          rw [z1]
          have z2 : IntKind.i64.wrap ((j : Int) - 1) = (j : Int) - 1 := IntWalk.i64_in _ (by omega)
          have z3 : decide ((0 : Int) ≤ (j : Int)) = true := decide_eq_true (by omega)
          have j2 : (j : Int) < (S.size : Int) := by omega
          have hc8 := UInt8.toNat_lt S[j]
          have oy2 := hownY.below (bal (Below.refl _ _) (.cells #[.int .u8 (S[j].toNat : Int)] 5))
          have hBy2 := bal hbi (.cells #[.int .u8 (S[j].toNat : Int)] 5)
          have HST := Lib.hid hst
          clear hst z1
          go_wp2_with (at_builtin; refine app_own rfl _ _ 121 rfl WO.heap.size 5 i0 _ 1 1 Try.underlying121 hi0 hz hsz hby rfl (by decide) _ (revN S (j + 1)) rfl oy2 ⟨wr.heap.size, 0, none⟩ 1 (S[j].toNat : Int) rfl (cell_one_new _ _ _) (by simp [Value.oneCell']) (by unfold maxLen; omega) (by omega) hBy2.size ?_; intro v2 w4 hownY2 hgY2)
          go_roundg j
          case measure => rw [HG2.out]; omega
          case rel =>
            have hb7 := below_own (B := WO.heap.size) oy2 hgY2 (Nat.le_refl _) hBy2.size
            exact ⟨j, by omega, rfl, by rw [HST.out]; exact hownY2, hBy2.trans hb7, by go_num⟩
    · have hil : i = xs.length := by omega
      subst hil
      rw [List.take_length] at hown
      have x0 := (hrr.set0 (.slice A2 n2 c2)).cell0
      go_wp2_with fail
      refine bodyPost_ret (v := .tuple #[.agg #[.slice A2 n2 c2], .int .i64 0]) (by simp [results, Try.results34, go_sem, x0]) rfl ⟨.slice A2 n2 c2, _, 0, rfl, HM.out.symm, HL.out, (hown.setBelow (a := (⟨w.heap.size + 1, 0, none⟩ : Addr)) (by show w.heap.size + 1 < BS; have := Hw1.out; omega) _).mono (by have := Hw1.out; omega), bst hbw (p := ⟨w.heap.size + 1, 0, none⟩) (by show w.heap.size ≤ w.heap.size + 1; omega) _⟩
set_option maxHeartbeats 6400000 in
set_option maxRecDepth 10000 in
theorem impl_MirrorLayout_any (A : Option Addr) (c : Nat) (xs : List ByteArray) (hx : xs.length ≤ 1048576) (hk : ∀ x ∈ xs, KStringS x) (w : World) (rx : Row w A encStr 1 xs) :
    Calls Try.prog 36 #[.agg #[.slice A xs.length c]] w (RLY 9 (M_MirrorLayout xs) w) := by
  obtain ⟨i0, hi0, hz, hsz, hby⟩ := info_parts infoY
  obtain ⟨i1, hi1, hz1, hsz1, hby1⟩ := info_parts info_StringS
  obtain ⟨W0, hW0⟩ : ∃ W0, W0 = (w.alloc (.cells #[.slice A xs.length c] 46)).alloc (.cells #[.slice none 0 0] 46) := ⟨_, rfl⟩
  have hB0 : Below w.heap.size w W0 := by rw [hW0]; exact bal (bal (Below.refl _ _) _) _
  have k0 : At1 W0 w.heap.size 46 (.slice A xs.length c) := by rw [hW0]; exact (At1.new w _ _).alloc _
  have r0 : At1 W0 (w.heap.size + 1) 46 (.slice none 0 0) := by
    rw [hW0]
    have := At1.new (w.alloc (.cells #[.slice A xs.length c] 46)) 46 (.slice none 0 0)
    rwa [World.size_alloc] at this
  have HW := Lib.hid hW0
  have Hs0 := Lib.hid (show W0.heap.size = w.heap.size + 1 + 1 by rw [hW0]; simp)
  clear hW0
  by_cases h : LayoutOk xs
  case neg =>
    have HM := Lib.hid (show M_MirrorLayout xs = ([], 1) by unfold M_MirrorLayout; rw [if_neg h])
    have cq := k0.cell0
    go_enter Try.func36, Try.ntmps36
    go_wp2_with fail
    rw [← HW.out]
    refine (RBb.no (impl_ValidLayout_any A c xs hx hk _ (rx.below hB0)) h).mono ?_; rintro e w1 ⟨rfl, hb1⟩
    have k1 := k0.below hb1
    have r1 := r0.below hb1
    have hB1 := bnext hB0 hb1
    have e0 := r1.cell0
    have e1 := r1.frozen 0
    have x1 := (r1.set0 (.slice none 0 0)).cell0
    go_wp2_with fail
    refine bodyPost_ret (v := .tuple #[.agg #[.slice none 0 0], .int .i64 1]) (by simp [results, Try.results36, go_sem, x1]) rfl ⟨.slice none 0 0, [], 1, rfl, HM.out.symm, by simp, (Own.nilv (e := encStr) (s := 1) _ (fun _ => rfl) w.heap.size 9), bst hB1 (p := ⟨w.heap.size + 1, 0, none⟩) (by show w.heap.size ≤ w.heap.size + 1; omega) _⟩
  have HM := Lib.hid (show M_MirrorLayout xs = (mirY xs, 0) by unfold M_MirrorLayout; rw [if_pos h])
  have h4 := h.1.2
  have HRow := Lib.hid h.2.1
  have HL := Lib.hid (show (mirY xs).length ≤ 1048576 by unfold mirY; rw [List.length_map]; omega)
  have cq := k0.cell0
  go_enter Try.func36, Try.ntmps36
  go_wp2_with fail
  rw [← HW.out]
  refine (RBb.yes (impl_ValidLayout_any A c xs hx hk _ (rx.below hB0)) h).mono ?_; rintro e w1 ⟨rfl, hb1⟩
  have k1 := k0.below hb1
  have r1 := r0.below hb1
  have hB1 := bnext hB0 hb1
  obtain ⟨BS, hBS⟩ : ∃ BS, BS = w1.heap.size := ⟨_, rfl⟩
  have o1 := Own.nilv (e := encStr) (s := 1) w1 (fun _ => rfl) BS 9
  have t1 := At1.new w1 46 (.slice none 0 0)
  have a1 : Apart (.slice none 0 0) w1.heap.size := Apart.none
  have o2 := o1.below (bal (Below.refl _ _) (.cells #[.slice none 0 0] 46))
  have k2 := k1.alloc (.cells #[.slice none 0 0] 46)
  have r2 := r1.alloc (.cells #[.slice none 0 0] 46)
  have hB2 := bal hB1 (.cells #[.slice none 0 0] 46)
  have hw1 : w.heap.size + 1 + 1 ≤ w1.heap.size := by have := hb1.size; rw [Hs0.out] at this; exact this
  rw [← hBS] at hw1
  have HNB := Lib.hid (show BS ≤ w1.heap.size by omega)
  have kc := k2.cell0
  have H2 := Lib.hid (And.intro t1 (And.intro o2 (And.intro a1 (And.intro k2 (And.intro r2 hB2)))))
  have Hw1 := Lib.hid hw1
  clear t1 o2 a1 k2 r2 hB2 o1 hw1 hBS k1 r1 k0 r0 h
  go_wp2_with fail
  go_loopg [17] xs.length (fun g is wr => ∃ (i : Nat) (v : Value), i ≤ xs.length ∧ g = xs.length - i ∧ Own wr BS 9 encStr 1 v (mirY (xs.take i)) ∧ Apart v w1.heap.size ∧ At1 wr w1.heap.size 46 v ∧ At1 wr w.heap.size 46 (.slice A xs.length c) ∧ At1 wr (w.heap.size + 1) 46 (.slice none 0 0) ∧ Below w.heap.size w wr ∧ is = .int .i64 i)
  case atStart =>
    obtain ⟨t1, o2, a1, k2, r2, hB2⟩ := H2.out
    exact ⟨0, _, Nat.zero_le _, rfl, o2, a1, t1, k2, r2, hB2, rfl⟩
  case round =>
    obtain ⟨i, v, hii, hg, hown, hap, ht, hkp, hrr, hbw, rfl⟩ := hrel
    obtain ⟨WO, rfl⟩ : ∃ WO, WO = wr := ⟨wr, rfl⟩
    obtain ⟨A2, n2, c2, rfl⟩ := own_slice hown
    have HG := Lib.hid hg
    clear hg H2 hB1 hb1 hB0 kc
    have d0 := ht.cell0
    have f0 := ht.frozen 0
    have d1 := hkp.cell0
    have e0 := hrr.cell0
    have ef := hrr.frozen 0
    by_cases hlt : i < xs.length
    · obtain ⟨b, off, hA, hb, c0⟩ := (rx.below hbw).at1 (f := fun x : ByteArray => .string x) (k := i) hlt
      have htk := mirY_take xs i hlt
      have hro := HRow.out _ (List.getElem_mem hlt)
      obtain ⟨S, hS⟩ : ∃ S, xs[i] = S := ⟨_, rfl⟩
      rw [hS] at c0 htk hro
      have hs12 : S.size ≤ 12 := hro.2.1
      have HTK := Lib.hid htk
      have Hb := Lib.hid hb
      have Hrx := Lib.hid (rx.below hbw)
      have i1' : (0 : Int) ≤ (i : Int) := by omega
      have i2' : (i : Int) < (xs.length : Int) := by omega
      have zs : IntKind.i64.wrap ((S.size : Int) - 1) = (S.size : Int) - 1 := IntWalk.i64_in _ (by omega)
      have oy := Own.lit0 (e := encY) (s := 1) WO (fun _ => rfl) WO.heap.size 5 (Nat.le_refl _)
      have hBy : Below WO.heap.size WO (WO.alloc (.cells #[] 5)) := bal (Below.refl _ _) _
      have d1y := (hkp.alloc (.cells #[] 5)).cell0
      have c0y := (hBy.cell (p := ⟨b, _, none⟩) hb).trans c0
      subst hA
      clear hro htk hS
      go_wp2_with fail
      go_loopg [7, 8] S.size (fun g2 ys cs wi => ∃ j : Nat, j ≤ S.size ∧ g2 = j ∧ Own wi WO.heap.size 5 encY 1 ys (revN S j) ∧ Below WO.heap.size WO wi ∧ cs = .int .i64 ((j : Int) - 1))
      case atStart => exact ⟨S.size, Nat.le_refl _, rfl, by rw [revN_end]; exact oy, hBy, rfl⟩
      case round =>
        obtain ⟨j, hj, hg2, hownY, hbi, rfl⟩ := hrel
        have HG2 := Lib.hid hg2
        clear hg2 oy hBy
        have hlY := revN_len S j
        have ht2 := ht.below hbi
        have hkp2 := hkp.below hbi
        have hrr2 := hrr.below hbi
        have d0' := ht2.cell0
        have f0' := ht2.frozen 0
        have d1' := hkp2.cell0
        have c0' := (hbi.cell (p := ⟨b, _, none⟩) Hb.out).trans c0
        cases j with
        | zero =>
          have hcv := conv_ownY (P := Try.prog) hownY 121 5 Try.underlying121 Try.underlying5 9 Try.underlying9
          rw [revN_str] at hcv
          obtain ⟨T, hT⟩ : ∃ T, revB S = T := ⟨_, rfl⟩
          rw [hT] at hcv
          have HT := Lib.hid hT
          obtain ⟨AY, nY, cY, rfl⟩ := own_slice hownY
          have ow2 := (hown.below hbi).below (bal (Below.refl _ _) (.cells #[.string T] 9))
          have hb2 := bal (bnext hbw hbi) (.cells #[.string T] 9)
          have ht3 := ht2.alloc (.cells #[.string T] 9)
          have hkp3 := hkp2.alloc (.cells #[.string T] 9)
          have hrr3 := hrr2.alloc (.cells #[.string T] 9)
          have hbs2 : BS ≤ (wr.alloc (.cells #[.string T] 9)).heap.size := by have := ht3.lt; have := HNB.out; omega
          have hlm : (mirY (xs.take i)).length ≤ 4 := by unfold mirY; rw [List.length_map, List.length_take]; omega
          have z0 : decide ((0 : Int) ≤ ((0 : Nat) : Int) - 1) = false := by decide
          clear hT
          go_wp2_with (at_builtin; refine app_own_at rfl _ _ 44 rfl BS 9 i1 _ 1 16 Try.underlying44 hi1 hz1 hsz1 hby1 rfl (by decide) _ (mirY (xs.take i)) rfl ow2 ⟨wr.heap.size, 0, none⟩ 1 (T : ByteArray) rfl (cell_one_new _ _ _) (by simp [Value.oneCell']) (by unfold maxLen; omega) (by omega) hbs2 ?_; intro v2 w2 hown2 hg5 hat2; obtain ⟨A5, n5, c5, rfl⟩ := own_slice hown2; have Ht4 := Lib.hid (ht3.grown hg5 hap.ne); have Hk4 := Lib.hid (hkp3.grown hg5 (own_ne ow2 (by have := Hw1.out; omega))); have Hr4 := Lib.hid (hrr3.grown hg5 (own_ne ow2 (by have := Hw1.out; omega))); have ap5 := hap.next (by have := ht3.lt; exact this) hat2; have HB5 := Lib.hid (hb2.trans (below_own (B := w.heap.size) ow2 hg5 (by have := Hw1.out; omega) hb2.size)); have q0 := Ht4.out.cell0; have qf := Ht4.out.frozen 0; have HO5 := Lib.hid hown2; clear hg5 hat2 ht3 hkp3 hrr3 ow2)
          go_roundg (xs.length - (i + 1))
          case measure => rw [HG.out]; omega
          case rel =>
            refine ⟨i + 1, .slice A5 n5 c5, by omega, rfl, ?_, ap5, Ht4.out.set0 _, Hk4.out.setOther w1.heap.size 0 _ (by have := HNB.out; have := Hw1.out; omega), Hr4.out.setOther w1.heap.size 0 _ (by have := HNB.out; have := Hw1.out; omega), bst HB5.out (p := ⟨w1.heap.size, 0, none⟩) (by show w.heap.size ≤ w1.heap.size; have := HNB.out; have := Hw1.out; omega) _, by go_num⟩
            rw [HTK.out, HT.out]
            exact HO5.out.kept (grown_cs _ w1.heap.size 0 _) ap5.or
        | succ j =>
          have hjl : j < S.size := by omega
          have hst := revN_step S j hjl
          have z1 : ((j + 1 : Nat) : Int) - 1 = (j : Int) := by omega
          rw [z1]
          have z2 : IntKind.i64.wrap ((j : Int) - 1) = (j : Int) - 1 := IntWalk.i64_in _ (by omega)
          have z3 : decide ((0 : Int) ≤ (j : Int)) = true := decide_eq_true (by omega)
          have j2 : (j : Int) < (S.size : Int) := by omega
          have hc8 := UInt8.toNat_lt S[j]
          have oy2 := hownY.below (bal (Below.refl _ _) (.cells #[.int .u8 (S[j].toNat : Int)] 5))
          have hBy2 := bal hbi (.cells #[.int .u8 (S[j].toNat : Int)] 5)
          have HST := Lib.hid hst
          clear hst z1
          go_wp2_with (at_builtin; refine app_own rfl _ _ 121 rfl WO.heap.size 5 i0 _ 1 1 Try.underlying121 hi0 hz hsz hby rfl (by decide) _ (revN S (j + 1)) rfl oy2 ⟨wr.heap.size, 0, none⟩ 1 (S[j].toNat : Int) rfl (cell_one_new _ _ _) (by simp [Value.oneCell']) (by unfold maxLen; omega) (by omega) hBy2.size ?_; intro v2 w4 hownY2 hgY2)
          go_roundg j
          case measure => rw [HG2.out]; omega
          case rel =>
            have hb7 := below_own (B := WO.heap.size) oy2 hgY2 (Nat.le_refl _) hBy2.size
            exact ⟨j, by omega, rfl, by rw [HST.out]; exact hownY2, hBy2.trans hb7, by go_num⟩
    · have hil : i = xs.length := by omega
      subst hil
      rw [List.take_length] at hown
      have x0 := (hrr.set0 (.slice A2 n2 c2)).cell0
      go_wp2_with fail
      refine bodyPost_ret (v := .tuple #[.agg #[.slice A2 n2 c2], .int .i64 0]) (by simp [results, Try.results36, go_sem, x0]) rfl ⟨.slice A2 n2 c2, _, 0, rfl, HM.out.symm, HL.out, (hown.setBelow (a := (⟨w.heap.size + 1, 0, none⟩ : Addr)) (by show w.heap.size + 1 < BS; have := Hw1.out; omega) _).mono (by have := Hw1.out; omega), bst hbw (p := ⟨w.heap.size + 1, 0, none⟩) (by show w.heap.size ≤ w.heap.size + 1; omega) _⟩
end Go.Proofs.Yteepcnfpdmmnhaa
