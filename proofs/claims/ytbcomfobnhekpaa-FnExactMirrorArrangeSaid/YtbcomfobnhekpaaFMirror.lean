/-
  FMirror: MirrorArrange, spec and impl.
-/
import Derived.Test.YtbcomfobnhekpaaFArr
import Derived.Test.YtbcomfobnhekpaaAppReg
import Derived.Test.YtbcomfobnhekpaaTInt64S
import Derived.Deep.RegionHeld3
namespace Go.Proofs.Ytbcomfobnhekpaa
open Go.RowKit
set_option linter.unusedVariables false
set_option linter.unusedSimpArgs false
attribute [local go_sem ↓] Go.wp_at_zero Go.wp_at_succ
def mirrorL (x : TBasket) (ps : List Int) : List Int := ps.map fun p => x.1 - 1 - p
open Classical in
noncomputable def M_MirrorArrange (x : TBasket) (ps : List Int) : List Int × Int :=
  if BasketOk x then (if ArrOk x ps 1 7 then (mirrorL x ps, 0) else ([], 2)) else ([], 1)
theorem mirror_take (x : TBasket) (ps : List Int) (k : Nat) (h : k < ps.length) : (mirrorL x ps).take (k + 1) = (mirrorL x ps).take k ++ [x.1 - 1 - ps[k]] := by
  unfold mirrorL
  rw [List.take_succ_eq_append_getElem (by simpa using h)]
  simp
theorem AtBasket.nextM {B : Nat} {w w' : World} {b : Nat} {x : TBasket} (h : AtBasket w b x) (hb : Below B w w') (hB : b < B) : AtBasket w' b x :=
  ⟨Nat.lt_of_lt_of_le h.1 hb.size, (hb.cell (p := ⟨b, 0, none⟩) hB).trans h.2.1, (hb.cell (p := ⟨b, 1, none⟩) hB).trans h.2.2.1, (hb.cell (p := ⟨b, 2, none⟩) hB).trans h.2.2.2.1, (hb.cell (p := ⟨b, 3, none⟩) hB).trans h.2.2.2.2.1, (hb.cell (p := ⟨b, 4, none⟩) hB).trans h.2.2.2.2.2⟩
set_option maxHeartbeats 3200000 in
set_option maxRecDepth 10000 in
theorem impl_MirrorArrange_any (x : TBasket) (hx : okBasket x) (B : Option Addr) (d : Nat) (ps : List Int) (hpl : ps.length ≤ 1048576) (hk64 : ∀ n ∈ ps, KInt64S n) (hcap : ps.length ≤ d) (w : World) (ry : Row w B encInt 1 ps) :
    Calls Try.prog 23 #[.agg #[.int .i64 x.1, .int .i64 x.2.1, .int .i64 x.2.2.1, .int .i64 x.2.2.2.1, .int .i64 x.2.2.2.2], .slice B ps.length d] w (RLE encInt 1 2 (M_MirrorArrange x ps) w) := by
  obtain ⟨i0, hi0, hz, hsz, hby⟩ := info_parts info_Int64S
  obtain ⟨W0, hW0⟩ : ∃ W0, W0 = w.alloc (.cells #[.int .i64 x.1, .int .i64 x.2.1, .int .i64 x.2.2.1, .int .i64 x.2.2.2.1, .int .i64 x.2.2.2.2] 32) := ⟨_, rfl⟩
  have hB0 : Below w.heap.size w W0 := by rw [hW0]; exact bal (Below.refl _ _) _
  have k0 : AtBasket W0 w.heap.size x := by rw [hW0]; exact AtBasket.new w _ x
  have HW := Lib.hid hW0
  clear hW0
  rcases ff2 (BasketOk x) (ArrOk x ps 1 7) with h | ⟨h, h2⟩ | ⟨h, h2⟩
  · have HM := Lib.hid (show M_MirrorArrange x ps = ([], 1) by unfold M_MirrorArrange; rw [if_neg h])
    go_enter Try.func23, Try.ntmps23
    go_wp2_with fail
    rw [← HW.out]
    refine (RBb.no (iValidBasket_any x _) h).mono ?_; rintro e w1 ⟨rfl, hb1⟩
    go_wp2_with fail
    go_ret2
    exact RLE.no (fun _ => rfl) HM.out.symm (bnext hB0 hb1)
  · have HM := Lib.hid (show M_MirrorArrange x ps = ([], 2) by unfold M_MirrorArrange; rw [if_pos h, if_neg h2])
    go_enter Try.func23, Try.ntmps23
    go_wp2_with fail
    rw [← HW.out]
    refine (RBb.yes (iValidBasket_any x _) h).mono ?_; rintro e w1 ⟨rfl, hb1⟩
    have k1 := k0.next hb1
    go_wp2_with (go_at_call 76; refine (RBb.no (arranges_any x h _ _ ps hpl hk64 1 7 (by omega) (by omega) _ (ry.below (bnext hB0 hb1))) h2).mono ?_; rintro e w3 ⟨rfl, hb3⟩)
    go_ret2
    exact RLE.no (fun _ => rfl) HM.out.symm (bnext (bnext hB0 hb1) hb3)
  · have HM := Lib.hid (show M_MirrorArrange x ps = (mirrorL x ps, 0) by unfold M_MirrorArrange; rw [if_pos h, if_pos h2])
    have hl7 : ps.length ≤ 7 := by have := h2.1.2; omega
    have HPl := Lib.hid h2.2
    have hx1 := h.1
    have hx2 := h.2.1
    go_enter Try.func23, Try.ntmps23
    go_wp2_with fail
    rw [← HW.out]
    refine (RBb.yes (iValidBasket_any x _) h).mono ?_; rintro e w1 ⟨rfl, hb1⟩
    have k1 := k0.next hb1
    go_wp2_with (first | (go_at_call 76; refine (RBb.yes (arranges_any x h _ _ ps hpl hk64 1 7 (by omega) (by omega) _ (ry.below (bnext hB0 hb1))) h2).mono ?_; rintro e w3 ⟨rfl, hb3⟩; have k3 := k1.next hb3; have hB3 := bnext (bnext hB0 hb1) hb3; have o1 := Own.lit0 (e := encInt) (s := 1) w3 (fun _ => rfl) w3.heap.size 2 (Nat.le_refl _); have hBl : Below w3.heap.size w3 (w3.alloc (.cells #[] 2)) := bal (Below.refl _ _) _))
    go_loopg [6, 19] ps.length (fun g vs is wr => ∃ (k : Nat), k ≤ ps.length ∧ g = ps.length - k ∧ Own wr w3.heap.size 2 encInt 1 vs ((mirrorL x ps).take k) ∧ Below w3.heap.size w3 wr ∧ is = .int .i64 k)
    case atStart => exact ⟨0, Nat.zero_le _, rfl, o1, hBl, rfl⟩
    case round =>
      obtain ⟨k, hkk, hg, hown, hbw, rfl⟩ := hrel
      have HG := Lib.hid hg
      have hcl : ((mirrorL x ps).take k).length = k := by rw [List.length_take]; unfold mirrorL; simp; omega
      have HL := Lib.hid hcl
      have k4 := k3.next hbw
      have hB4 := bnext hB3 hbw
      clear hg hcl
      by_cases hlt : k < ps.length
      · have htk := mirror_take x ps k hlt
        have HTK := Lib.hid htk
        have hp := (HPl.out k hlt hlt).1
        obtain ⟨hp0, hp9⟩ := hp
        obtain ⟨b, off, hA, hb, c0⟩ := (ry.below hB4).at1 (f := fun x : Int => .int .i64 x) hlt
        have i1 : (0 : Int) ≤ (k : Int) := by omega
        have i2 : (k : Int) < (ps.length : Int) := by omega
        have z1 : IntKind.i64.wrap (x.1 - 1) = x.1 - 1 := IntWalk.i64_in _ (by omega)
        have z2 : IntKind.i64.wrap (x.1 - 1 - ps[k]) = x.1 - 1 - ps[k] := IntWalk.i64_in _ (by omega)
        have z3 : IntKind.i64.wrap (IntKind.i64.wrap (x.1 - 1) - ps[k]) = x.1 - 1 - ps[k] := by rw [z1]; exact z2
        clear htk
        subst hA
        have o2 := hown.below (bal (Below.refl _ _) (.cells #[.int .i64 (x.1 - 1 - ps[k])] 2))
        have hB2 := bal hbw (.cells #[.int .i64 (x.1 - 1 - ps[k])] 2)
        go_wp2_with (at_builtin; refine app_own rfl _ _ 29 rfl w3.heap.size 2 i0 _ 1 8 Try.underlying29 hi0 hz hsz hby rfl (by decide) _ ((mirrorL x ps).take k) rfl o2 ⟨_, 0, none⟩ 1 (x.1 - 1 - ps[k]) rfl (cell_one_new _ _ _) (by simp [Value.oneCell']) (by rw [HL.out]; unfold maxLen; omega) (by rw [HL.out]; omega) hB2.size ?_; intro v2 w4 hown2 hg2)
        go_roundg (ps.length - (k + 1))
        case measure => rw [HG.out]; omega
        case rel =>
          have hb7 := below_own (B := w3.heap.size) o2 hg2 (Nat.le_refl _) hB2.size
          exact ⟨k + 1, by omega, rfl, by rw [HTK.out]; exact hown2, hB2.trans hb7, by go_num⟩
      · have htk : (mirrorL x ps).take k = mirrorL x ps := List.take_of_length_le (by unfold mirrorL; simp; omega)
        rw [htk] at hown
        have hcl2 : (mirrorL x ps).length ≤ 1048576 := by unfold mirrorL; simp; omega
        have HCl := Lib.hid hcl2
        clear htk hcl2
        go_wp2_with fail
        go_ret2
        exact RLE.mk HM.out.symm HCl.out (hown.mono hB3.size) hB4
set_option maxHeartbeats 3200000 in
set_option maxRecDepth 10000 in
theorem spec_MirrorArrange_any (x : TBasket) (hx : okBasket x) (B : Option Addr) (d : Nat) (ps : List Int) (hpl : ps.length ≤ 1048576) (hk64 : ∀ n ∈ ps, KInt64S n) (hcap : ps.length ≤ d) (w : World) (ry : Row w B encInt 1 ps) :
    Calls Try.prog 20 #[.agg #[.int .i64 x.1, .int .i64 x.2.1, .int .i64 x.2.2.1, .int .i64 x.2.2.2.1, .int .i64 x.2.2.2.2], .slice B ps.length d] w (RLE encInt 1 2 (M_MirrorArrange x ps) w) := by
  obtain ⟨i0, hi0, hz, hsz, hby⟩ := info_parts info_Int64S
  obtain ⟨W0, hW0⟩ : ∃ W0, W0 = w.alloc (.cells #[.int .i64 x.1, .int .i64 x.2.1, .int .i64 x.2.2.1, .int .i64 x.2.2.2.1, .int .i64 x.2.2.2.2] 32) := ⟨_, rfl⟩
  have hB0 : Below w.heap.size w W0 := by rw [hW0]; exact bal (Below.refl _ _) _
  have k0 : AtBasket W0 w.heap.size x := by rw [hW0]; exact AtBasket.new w _ x
  have HW := Lib.hid hW0
  clear hW0
  rcases ff2 (BasketOk x) (ArrOk x ps 1 7) with h | ⟨h, h2⟩ | ⟨h, h2⟩
  · have HM := Lib.hid (show M_MirrorArrange x ps = ([], 1) by unfold M_MirrorArrange; rw [if_neg h])
    go_enter Try.func20, Try.ntmps20
    go_wp2_with fail
    rw [← HW.out]
    refine (RBb.no (l03Ok_any x _) h).mono ?_; rintro e w1 ⟨rfl, hb1⟩
    go_wp2_with fail
    go_ret2
    exact RLE.no (fun _ => rfl) HM.out.symm (bnext hB0 hb1)
  · have HM := Lib.hid (show M_MirrorArrange x ps = ([], 2) by unfold M_MirrorArrange; rw [if_pos h, if_neg h2])
    go_enter Try.func20, Try.ntmps20
    go_wp2_with fail
    rw [← HW.out]
    refine (RBb.yes (l03Ok_any x _) h).mono ?_; rintro e w1 ⟨rfl, hb1⟩
    have k1 := k0.next hb1
    go_wp2_with (go_at_call 74; refine (RBb.no (l05Places_any x h _ _ ps hpl hcap _ (ry.below (bnext hB0 hb1))) h2).mono ?_; rintro e w3 ⟨rfl, hb3⟩)
    go_ret2
    exact RLE.no (fun _ => rfl) HM.out.symm (bnext (bnext hB0 hb1) hb3)
  · have HM := Lib.hid (show M_MirrorArrange x ps = (mirrorL x ps, 0) by unfold M_MirrorArrange; rw [if_pos h, if_pos h2])
    have hl7 : ps.length ≤ 7 := by have := h2.1.2; omega
    have HPl := Lib.hid h2.2
    have hx1 := h.1
    have hx2 := h.2.1
    go_enter Try.func20, Try.ntmps20
    go_wp2_with fail
    rw [← HW.out]
    refine (RBb.yes (l03Ok_any x _) h).mono ?_; rintro e w1 ⟨rfl, hb1⟩
    have k1 := k0.next hb1
    go_wp2_with (first | (go_at_call 74; refine (RBb.yes (l05Places_any x h _ _ ps hpl hcap _ (ry.below (bnext hB0 hb1))) h2).mono ?_; rintro e w3 ⟨rfl, hb3⟩; have k3 := k1.next hb3; have hB3 := bnext (bnext hB0 hb1) hb3; have o1 := Own.lit0 (e := encInt) (s := 1) w3 (fun _ => rfl) w3.heap.size 2 (Nat.le_refl _); have hBl : Below w3.heap.size w3 (w3.alloc (.cells #[] 2)) := bal (Below.refl _ _) _))
    go_loopg [6, 7] ps.length (fun g vs is wr => ∃ (k : Nat), k ≤ ps.length ∧ g = ps.length - k ∧ Own wr w3.heap.size 2 encInt 1 vs ((mirrorL x ps).take k) ∧ Below w3.heap.size w3 wr ∧ is = .int .i64 k)
    case atStart => exact ⟨0, Nat.zero_le _, rfl, o1, hBl, rfl⟩
    case round =>
      obtain ⟨k, hkk, hg, hown, hbw, rfl⟩ := hrel
      have HG := Lib.hid hg
      have hcl : ((mirrorL x ps).take k).length = k := by rw [List.length_take]; unfold mirrorL; simp; omega
      have HL := Lib.hid hcl
      have k4 := k3.next hbw
      have hB4 := bnext hB3 hbw
      clear hg hcl
      by_cases hlt : k < ps.length
      · have htk := mirror_take x ps k hlt
        have HTK := Lib.hid htk
        have hp := (HPl.out k hlt hlt).1
        obtain ⟨hp0, hp9⟩ := hp
        obtain ⟨b, off, hA, hb, c0⟩ := (ry.below hB4).at1 (f := fun x : Int => .int .i64 x) hlt
        have i1 : (0 : Int) ≤ (k : Int) := by omega
        have i2 : (k : Int) < (ps.length : Int) := by omega
        have z1 : IntKind.i64.wrap (x.1 - 1) = x.1 - 1 := IntWalk.i64_in _ (by omega)
        have z2 : IntKind.i64.wrap (x.1 - 1 - ps[k]) = x.1 - 1 - ps[k] := IntWalk.i64_in _ (by omega)
        have z3 : IntKind.i64.wrap (IntKind.i64.wrap (x.1 - 1) - ps[k]) = x.1 - 1 - ps[k] := by rw [z1]; exact z2
        clear htk
        have HBD := Lib.hid (show b < w3.heap.size by obtain ⟨b9, off9, hA9, hb9, _⟩ := (ry.below hB3).at1 (f := fun x : Int => .int .i64 x) hlt; rw [hA] at hA9; simp only [Option.some.injEq, Addr.mk.injEq, and_true] at hA9; rw [hA9.1]; exact hb9)
        subst hA
        have hbd : b < w3.heap.size := HBD.out
        have o2 := (hown.below (bdr (Below.refl _ _))).below (bal (Below.refl _ _) (.cells #[.int .i64 (x.1 - 1 - ps[k])] 2))
        have hB2 := bal (bdr hbw) (.cells #[.int .i64 (x.1 - 1 - ps[k])] 2)
        obtain ⟨v2, w4, hrun, hown2, hg2, _, _⟩ := run_append_own_at (P := Try.prog) _ w3.heap.size 29 29 2 i0 _ 1 8 Try.underlying29 hi0 hz hsz hby rfl (by omega) _ _ _ o2.2 ⟨wr.heap.size, 0, none⟩ 1 1 [.int .i64 (x.1 - 1 - ps[k])] rfl (cell_one_new wr.drew _ 2) (by simp [Value.oneCell']) (by rw [HL.out]; unfold maxLen; omega) (by rw [HL.out]; omega) hB2.size
        have hb7 := below_own (B := w3.heap.size) o2 hg2 (Nat.le_refl _) hB2.size
        have k6 := k4.next (bal (bdr (Below.refl _ _)) (.cells #[.int .i64 (x.1 - 1 - ps[k])] 2))
        have k7 := k6.nextM hb7 k3.1
        have c6 := ((bal (bdr (Below.refl _ _)) (.cells #[.int .i64 (x.1 - 1 - ps[k])] 2)).cell (p := ⟨b, _, none⟩) hb).trans c0
        have c7 := (hb7.cell (p := ⟨b, _, none⟩) hbd).trans c6
        have HO2 := Lib.hid (show Own w4 w3.heap.size 2 encInt 1 v2 ((mirrorL x ps).take (k + 1)) from ⟨fun _ => rfl, by rw [HTK.out, List.flatMap_append, List.length_append]; simpa using hown2⟩)
        have HB7 := Lib.hid (hB2.trans hb7)
        clear hown2 hg2 o2 hb7 k6
        go_wp2_with fail
        refine wp_region_held_drew (S := (fun w' => (w'.cell? ⟨w.heap.size, 0, none⟩ = some (.int .i64 x.1) ∧ w'.cell? ⟨w.heap.size, 1, none⟩ = some (.int .i64 x.2.1) ∧ w'.cell? ⟨w.heap.size, 2, none⟩ = some (.int .i64 x.2.2.1) ∧ w'.cell? ⟨w.heap.size, 3, none⟩ = some (.int .i64 x.2.2.2.1) ∧ w'.cell? ⟨w.heap.size, 4, none⟩ = some (.int .i64 x.2.2.2.2)) ∧ w'.cell? ⟨b, off + k, none⟩ = some (.int .i64 ps[k]))) (by kernel_rfl) ⟨k4.2, c0⟩ (fun hHeld => ?_)
        refine wpAnyH_take (i := 0) (v := ?_) rfl (by kernel_rfl) (by kernel_rfl) (by kernel_rfl) (fun _ _ _ h => h) (Or.inl ⟨by rfl, ?_⟩) (by assumption) ?_
        rotate_left
        · (intro w hSw; (try dsimp only at hSw); go_simp; try with_reducible rfl)
        try simp only [Act.put, List.getElem_toArray, List.getElem_cons_zero, List.getElem_cons_succ, List.setIfInBounds_toArray, List.set_cons_zero, List.set_cons_succ]
        refine wpAnyH_take (i := 1) (v := ?_) rfl (by kernel_rfl) (by kernel_rfl) (by kernel_rfl) (fun _ _ _ h => h) (Or.inl ⟨by rfl, ?_⟩) (by assumption) ?_
        rotate_left
        · (intro w hSw; (try dsimp only at hSw); go_simp; try with_reducible rfl)
        try simp only [Act.put, List.getElem_toArray, List.getElem_cons_zero, List.getElem_cons_succ, List.setIfInBounds_toArray, List.set_cons_zero, List.set_cons_succ]
        refine wpAnyH_take (i := 2) (v := ?_) rfl (by kernel_rfl) (by kernel_rfl) (by kernel_rfl) (fun _ _ _ h => h) (Or.inl ⟨by rfl, ?_⟩) (by assumption) ?_
        rotate_left
        · (intro w hSw; (try dsimp only at hSw); go_simp; try with_reducible rfl)
        try simp only [Act.put, List.getElem_toArray, List.getElem_cons_zero, List.getElem_cons_succ, List.setIfInBounds_toArray, List.set_cons_zero, List.set_cons_succ]
        refine wpAnyH_take (i := 3) (v := ?_) rfl (by kernel_rfl) (by kernel_rfl) (by kernel_rfl) (fun _ _ _ h => h) (Or.inl ⟨by rfl, ?_⟩) (by assumption) ?_
        rotate_left
        · (intro w hSw; (try dsimp only at hSw); go_simp; try with_reducible rfl)
        try simp only [Act.put, List.getElem_toArray, List.getElem_cons_zero, List.getElem_cons_succ, List.setIfInBounds_toArray, List.set_cons_zero, List.set_cons_succ]
        refine wpAnyH_take (i := 4) (v := ?_) rfl (by kernel_rfl) (by kernel_rfl) (by kernel_rfl) (fun _ _ _ h => h) (Or.inl ⟨by rfl, ?_⟩) (by assumption) ?_
        rotate_left
        · (intro w hSw; (try dsimp only at hSw); go_simp; try with_reducible rfl)
        try simp only [Act.put, List.getElem_toArray, List.getElem_cons_zero, List.getElem_cons_succ, List.setIfInBounds_toArray, List.set_cons_zero, List.set_cons_succ]
        refine wpAnyH_take (i := 5) (v := ?_) rfl (by kernel_rfl) (by kernel_rfl) (by kernel_rfl) (fun _ _ _ h => h) (Or.inl ⟨by rfl, ?_⟩) (by assumption) ?_
        rotate_left
        · (intro w hSw; (try dsimp only at hSw); go_simp; try with_reducible rfl)
        try simp only [Act.put, List.getElem_toArray, List.getElem_cons_zero, List.getElem_cons_succ, List.setIfInBounds_toArray, List.set_cons_zero, List.set_cons_succ]
        refine wpAnyH_take (i := 6) (v := ?_) rfl (by kernel_rfl) (by kernel_rfl) (by kernel_rfl) (fun _ _ _ h => h) (Or.inl ⟨by rfl, ?_⟩) (by assumption) ?_
        rotate_left
        · (intro w hSw; (try dsimp only at hSw); go_simp; try with_reducible rfl)
        try simp only [Act.put, List.getElem_toArray, List.getElem_cons_zero, List.getElem_cons_succ, List.setIfInBounds_toArray, List.set_cons_zero, List.set_cons_succ]
        refine wpAnyH_take (i := 7) (v := ?_) rfl (by kernel_rfl) (by kernel_rfl) (by kernel_rfl) (fun _ _ _ h => h) (Or.inl ⟨by rfl, ?_⟩) (by assumption) ?_
        rotate_left
        · (intro w hSw; (try dsimp only at hSw); go_simp; try with_reducible rfl)
        try simp only [Act.put, List.getElem_toArray, List.getElem_cons_zero, List.getElem_cons_succ, List.setIfInBounds_toArray, List.set_cons_zero, List.set_cons_succ]
        refine wpAnyH_take (i := 8) (v := ?_) rfl (by kernel_rfl) (by kernel_rfl) (by kernel_rfl) (fun _ _ _ h => h) (Or.inl ⟨by rfl, ?_⟩) (by assumption) ?_
        rotate_left
        · (intro w hSw; (try dsimp only at hSw); go_simp; try with_reducible rfl)
        try simp only [Act.put, List.getElem_toArray, List.getElem_cons_zero, List.getElem_cons_succ, List.setIfInBounds_toArray, List.set_cons_zero, List.set_cons_succ]
        refine wpAnyH_ready (rs := [9]) (by kernel_rfl) (by simp) ?_
        refine AllReadyH.cons rfl (fun K hK => ?_) AllReadyH.nil
        go_simp
        refine hK.out _ _ ⟨(k4.next (bal (bdr (Below.refl _ _)) _)).2, c6⟩ (fun hHeld => ?_)
        clear hK K
        try simp only [Act.put, List.getElem_toArray, List.getElem_cons_zero, List.getElem_cons_succ, List.setIfInBounds_toArray, List.set_cons_zero, List.set_cons_succ]
        refine wpAnyH_ready (rs := [10]) (by kernel_rfl) (by simp) ?_
        refine AllReadyH.cons rfl (fun K hK => ?_) AllReadyH.nil
        rw [if_pos (by rfl)]
        refine append_wp _ _ _ rfl _ _ _ rfl rfl hrun ?_
        refine hK.out _ _ ⟨k7.2, c7⟩ (fun hHeld => ?_)
        clear hK K
        try simp only [Act.put, List.getElem_toArray, List.getElem_cons_zero, List.getElem_cons_succ, List.setIfInBounds_toArray, List.set_cons_zero, List.set_cons_succ]
        refine wpAnyH_take (i := 11) (v := ?_) rfl (by kernel_rfl) (by kernel_rfl) (by kernel_rfl) (fun _ _ _ h => h) (Or.inl ⟨by rfl, ?_⟩) (by assumption) ?_
        rotate_left
        · (intro w hSw; (try dsimp only at hSw); go_simp; try with_reducible rfl)
        try simp only [Act.put, List.getElem_toArray, List.getElem_cons_zero, List.getElem_cons_succ, List.setIfInBounds_toArray, List.set_cons_zero, List.set_cons_succ]
        refine wpAnyH_done (by kernel_rfl) ?_ _
        go_wp2_with fail
        go_roundg (ps.length - (k + 1))
        case measure => rw [HG.out]; omega
        case rel => exact ⟨k + 1, by omega, rfl, HO2.out, HB7.out, by go_num⟩
      · have htk : (mirrorL x ps).take k = mirrorL x ps := List.take_of_length_le (by unfold mirrorL; simp; omega)
        rw [htk] at hown
        have hcl2 : (mirrorL x ps).length ≤ 1048576 := by unfold mirrorL; simp; omega
        have HCl := Lib.hid hcl2
        clear htk hcl2
        go_wp2_with fail
        go_ret2
        exact RLE.mk HM.out.symm HCl.out (hown.mono hB3.size) hB4
end Go.Proofs.Ytbcomfobnhekpaa
