/-
  FImprove: ImproveArrange, spec and impl: exchanges as long as the cost falls.
-/
import Derived.Test.YtbcomfobnhekpaaFBestSwap
namespace Go.Proofs.Ytbcomfobnhekpaa
open Go.RowKit
set_option linter.unusedVariables false
attribute [local go_sem ↓] Go.wp_at_zero Go.wp_at_succ
/-- What is known of the best exchange so far: its cost is l, less than that of ps. -/
def SwOk (x : TBasket) (xs : List (List Int)) (ps : List Int) (l : Int) : Sw → Prop
  | none => l = costA x xs ps
  | some (a, b) => (a < ps.length ∧ b < ps.length) ∧ l = costA x xs (swapL ps a b) ∧ l < costA x xs ps
theorem SwOk.le {x : TBasket} {xs : List (List Int)} {ps : List Int} {l : Int} {o : Sw} (h : SwOk x xs ps l o) : l ≤ costA x xs ps := by
  cases o with
  | none => exact Int.le_of_eq h
  | some o => obtain ⟨a, b⟩ := o; exact Int.le_of_lt h.2.2
theorem swIn_ok (x : TBasket) (xs : List (List Int)) (ps : List Int) (i : Nat) (hi : i < ps.length) : ∀ (g k : Nat) (l : Int) (o : Sw), k + g ≤ ps.length → SwOk x xs ps l o → SwOk x xs ps (swIn x xs ps i g k l o).1 (swIn x xs ps i g k l o).2
  | 0, k, l, o, _, h => h
  | g + 1, k, l, o, hk, h => by
    unfold swIn
    split
    · rename_i hc
      exact swIn_ok x xs ps i hi g (k + 1) _ _ (by omega) ⟨⟨hi, by omega⟩, rfl, by have := h.le; omega⟩
    · exact swIn_ok x xs ps i hi g (k + 1) l o (by omega) h
theorem swOut_ok (x : TBasket) (xs : List (List Int)) (ps : List Int) : ∀ (g i : Nat) (l : Int) (o : Sw), i + g ≤ ps.length → SwOk x xs ps l o → ∃ l', SwOk x xs ps l' (swOut x xs ps g i l o)
  | 0, i, l, o, _, h => ⟨l, h⟩
  | g + 1, i, l, o, hi, h => by
    unfold swOut
    exact swOut_ok x xs ps g (i + 1) _ _ (by omega) (swIn_ok x xs ps i (by omega) _ _ l o (by omega) h)
theorem bestSw_some {x : TBasket} {xs : List (List Int)} {ps : List Int} {a b : Nat} (h : bestSw x xs ps = some (a, b)) : (a < ps.length ∧ b < ps.length) ∧ costA x xs (swapL ps a b) < costA x xs ps := by
  obtain ⟨l, hl⟩ := swOut_ok x xs ps ps.length 0 (costA x xs ps) none (by omega) rfl
  unfold bestSw at h
  rw [h] at hl
  exact ⟨hl.1, by have := hl.2.1; have := hl.2.2; omega⟩
def impGo (x : TBasket) (xs : List (List Int)) : Nat → List Int → List Int
  | 0, ps => ps
  | g + 1, ps => match bestSw x xs ps with
    | none => ps
    | some (a, b) => impGo x xs g (swapL ps a b)
theorem impGo_len (x : TBasket) (xs : List (List Int)) : ∀ (g : Nat) (ps : List Int), (impGo x xs g ps).length = ps.length
  | 0, ps => rfl
  | g + 1, ps => by
    unfold impGo
    split
    · rfl
    · rw [impGo_len x xs g, swapL_len]
def improveL (x : TBasket) (xs : List (List Int)) (ps : List Int) : List Int := impGo x xs ((costA x xs ps).toNat + 1) ps
open Classical in
noncomputable def M_ImproveArrange (x : TBasket) (xs : List (List Int)) (ps : List Int) : List Int × Int := if ArrAll x xs ps then (improveL x xs ps, 0) else ([], arrCode x xs ps)
set_option maxHeartbeats 6400000 in
set_option maxRecDepth 10000 in
theorem impl_ImproveArrange_any (x : TBasket) (hx : okBasket x) (A : Option Addr) (c : Nat) (xs : List (List Int)) (hxl : xs.length ≤ 1048576) (hu : ∀ r ∈ xs, r.length ≤ 1048576 ∧ ∀ x ∈ r, I64 x) (B : Option Addr) (d : Nat) (ps : List Int) (hpl : ps.length ≤ 1048576) (hk64 : ∀ n ∈ ps, KInt64S n) (hcap : ps.length ≤ d) (w : World) (rx : RowXX w A xs) (ry : Row w B encInt 1 ps) :
    Calls Try.prog 70 #[.agg #[.int .i64 x.1, .int .i64 x.2.1, .int .i64 x.2.2.1, .int .i64 x.2.2.2.1, .int .i64 x.2.2.2.2], .slice A xs.length c, .slice B ps.length d] w (RLE encInt 1 2 (M_ImproveArrange x xs ps) w) := by
  obtain ⟨i0, hi0, hz, hsz, hby⟩ := info_parts info_Int64S
  obtain ⟨W0, hW0⟩ : ∃ W0, W0 = w.alloc (.cells #[.int .i64 x.1, .int .i64 x.2.1, .int .i64 x.2.2.1, .int .i64 x.2.2.2.1, .int .i64 x.2.2.2.2] 32) := ⟨_, rfl⟩
  have hB0 : Below w.heap.size w W0 := by rw [hW0]; exact bal (Below.refl _ _) _
  have k0 : AtBasket W0 w.heap.size x := by rw [hW0]; exact AtBasket.new w _ x
  have HW := Lib.hid hW0
  clear hW0
  have hcb := arrCode_bd x xs ps
  obtain ⟨hcb1, hcb2⟩ := hcb
  by_cases h : ArrAll x xs ps
  case neg =>
    have HM := Lib.hid (show M_ImproveArrange x xs ps = ([], arrCode x xs ps) by unfold M_ImproveArrange; rw [if_neg h])
    have hne := arrCode_ne h
    clear h
    go_enter Try.func70, Try.ntmps70
    go_wp2_with fail
    rw [← HW.out]
    refine (arrangeCode_any x _ _ xs hxl hu _ _ ps hpl hk64 _ (rx.below hB0) (ry.below hB0)).mono ?_; rintro e w1 ⟨n, rfl, hn, hb1⟩
    rw [← hn] at hne hcb1 hcb2
    have HN := Lib.hid hn
    have tn : (n != 0) = true := by rw [bne_iff_ne]; exact hne
    clear hn hne
    go_wp2_with fail
    go_ret2
    exact RLE.no (fun _ => rfl) (by rw [HM.out, HN.out]) (bnext hB0 hb1)
  obtain ⟨R, hR⟩ : ∃ R, R = improveL x xs ps := ⟨_, rfl⟩
  have HM := Lib.hid (show M_ImproveArrange x xs ps = (R, 0) by unfold M_ImproveArrange; rw [if_pos h, hR])
  have hRl : R.length = ps.length := by rw [hR]; unfold improveL; exact impGo_len x xs _ ps
  have HRl := Lib.hid hRl
  have HR := Lib.hid hR
  have HC := Lib.hid (arrCode_zero h)
  have HA := Lib.hid h
  have hn1 := h.1.2.1.1
  have hn2 := h.1.2.1.2
  have hnn := h.2.1
  have HNN := Lib.hid hnn
  have hp2 : 2 ≤ ps.length := by omega
  have hp7 : ps.length ≤ 7 := by omega
  clear h hR hRl hnn
  obtain ⟨bq, offq, hAq, hbq, cq⟩ := ry.at1 (f := fun x : Int => .int .i64 x) (k := 0) (by omega)
  subst hAq
  go_enter Try.func70, Try.ntmps70
  go_wp2_with fail
  rw [← HW.out]
  refine (arrangeCode_any x _ _ xs hxl hu _ _ ps hpl hk64 _ (rx.below hB0) (ry.below hB0)).mono ?_; rintro e w1 ⟨n, rfl, hn, hb1⟩
  replace hn := hn.trans HC.out
  subst hn
  have k1 := k0.next hb1
  have hB1 := bnext hB0 hb1
  have o0 := Own.lit0 (e := encInt) (s := 1) w1 (fun _ => rfl) w1.heap.size 2 (Nat.le_refl _)
  have hBl : Below w1.heap.size w1 (w1.alloc (.cells #[] 2)) := bal (Below.refl _ _) _
  have r1 := (ry.below hB1).below hBl
  go_wp2_with (at_builtin; refine app_ints rfl _ _ 29 rfl w1.heap.size 2 i0 _ 8 Try.underlying29 hi0 hz hsz hby rfl _ [] rfl o0 bq offq ps.length d ps rfl rfl r1 (by simp [maxLen]; omega) (by simp; omega) (by simp) ?_; intro v2 w2 o2 hg2; rw [List.nil_append] at o2; have hb2 : Below w1.heap.size w1 w2 := hBl.trans (below_own o0 hg2 (Nat.le_refl _) hBl.size))
  obtain ⟨g4, cap4, rfl⟩ := own_some o2 (by omega)
  go_wp2_with fail
  go_loopg [10] ((costA x xs ps).toNat + 1) (fun g vs wr => ∃ (G : Nat) (out : List Int), g = G + 1 ∧ (costA x xs out).toNat ≤ G ∧ out.length = ps.length ∧ (∀ j (h : j < out.length), 0 ≤ out[j] ∧ out[j] ≤ 60) ∧ impGo x xs (G + 1) out = R ∧ Own wr w1.heap.size 2 encInt 1 (.slice (some ⟨g4, 0, none⟩) ps.length cap4) out ∧ Below w1.heap.size w1 wr)
  case atStart => exact ⟨(costA x xs ps).toNat, ps, rfl, Nat.le_refl _, rfl, places_at HA.out.1.1 HA.out.2.2, HR.out.symm, o2, hb2⟩
  case round =>
    obtain ⟨G, out, hg, hcG, hol, hoA, hgo, hown, hbw⟩ := hrel
    have HG := Lib.hid hg
    have HcG := Lib.hid hcG
    have HOl := Lib.hid hol
    have HOA := Lib.hid hoA
    have HGo := Lib.hid hgo
    have hol7 : out.length ≤ 7 := by omega
    have hol2 : 2 ≤ out.length := by omega
    have k2 := k1.next hbw
    have hB2 := bnext hB1 hbw
    have r2 := own_row hown
    
    clear hg hcG hol hoA hgo 
    go_wp2_with fail
    have hcall := bestSwap_any x HA.out.1.1 _ c xs HA.out.1.2 _ cap4 out (HOl.out.trans HNN.out) HOA.out _ (rx.below hB2) r2
    rw [HOl.out] at hcall
    refine hcall.mono ?_; rintro e w4 ⟨hb4, n0, n1, bb, rfl, hx0, hx1, hx2⟩
    clear hcall
    have HX0 := Lib.hid hx0
    have HX1 := Lib.hid hx1
    have HX2 := Lib.hid hx2
    clear hx0 hx1 hx2
    obtain ⟨o, ho⟩ : ∃ o, bestSw x xs out = o := ⟨_, rfl⟩
    have HO := Lib.hid ho
    clear ho
    cases o with
    | none =>
      have e0 : n0 = 0 := by rw [HX0.out, HO.out]; rfl
      have e1 : n1 = 0 := by rw [HX1.out, HO.out]; rfl
      have e2 : bb = false := by rw [HX2.out, HO.out]; rfl
      have hfin : out = R := by
        have := HGo.out
        unfold impGo at this
        rw [HO.out] at this
        exact this
      have HF := Lib.hid hfin
      clear hfin HX0 HX1 HX2
      subst e0
      subst e1
      subst e2
      go_wp2_with fail
      go_ret2
      exact RLE.mk (by rw [HM.out, HF.out]) (by omega) ((hown.below hb4).mono hB1.size) (bnext hB2 hb4)
    | some ab =>
      obtain ⟨i, k⟩ := ab
      have hsw := bestSw_some HO.out
      have e0 : n0 = (i : Int) := by rw [HX0.out, HO.out]; rfl
      have e1 : n1 = (k : Int) := by rw [HX1.out, HO.out]; rfl
      have e2 : bb = true := by rw [HX2.out, HO.out]; rfl
      have hnx : impGo x xs G (swapL out i k) = R := by
        have := HGo.out
        unfold impGo at this
        rw [HO.out] at this
        exact this
      have hil := hsw.1.1
      have hkl := hsw.1.2
      have HCl := Lib.hid hsw.2
      have HNx := Lib.hid hnx
      have hcb0 := (costA_bd x HA.out.1.1 xs HA.out.1.2 (swapL out i k)).1
      have hG1 : 1 ≤ G := by have := HCl.out; have := HcG.out; omega
      have hcG2 : (costA x xs (swapL out i k)).toNat ≤ G - 1 := by have := HCl.out; have := HcG.out; omega
      have HG2 := Lib.hid hcG2
      have HAll := Lib.hid (swapL_all (p := fun n => 0 ≤ n ∧ n ≤ 60) hil hkl HOA.out)
      have i1 : (0 : Int) ≤ (i : Int) := by omega
      have i2 : (i : Int) < (out.length : Int) := by omega
      have i3 : (0 : Int) ≤ (k : Int) := by omega
      have i4 : (k : Int) < (out.length : Int) := by omega
      have i5 : ¬ ((i : Int) < 0) := by omega
      have i6 : (i : Int) < (ps.length : Int) := by have := HOl.out; omega
      have i7 : (k : Int) < (ps.length : Int) := by have := HOl.out; omega
      clear hnx HX0 HX1 HX2 hcG2 hsw hcb0
      subst e0
      subst e1
      subst e2
      have o4 := hown.below hb4
      have hgb := o4.blk.1
      have e0 : w4.cell? ⟨g4, i, none⟩ = some (.int .i64 out[i]) := by have := o4.cell (j := 0) hil rfl; simpa using this
      have e1 : w4.cell? ⟨g4, k, none⟩ = some (.int .i64 out[k]) := by have := o4.cell (j := 0) hkl rfl; simpa using this
      have z0 := o4.frozen i
      have z2 := o4.frozen k
      have o5 := o4.store1 (f := fun x : Int => .int .i64 x) hil out[k]
      have hk2 : k < (out.set i out[k]).length := by rw [List.length_set]; exact hkl
      have e3 : (w4.setCell ⟨g4, i, none⟩ (.int .i64 out[k])).cell? ⟨g4, k, none⟩ = some (.int .i64 (out.set i out[k])[k]) := by have := o5.cell (j := 0) hk2 rfl; simpa using this
      have z1 := o5.frozen k
      have o6 := o5.store1 (f := fun x : Int => .int .i64 x) hk2 out[i]
      have hv : swapL out i k = (out.set i out[k]).set k out[i] := by
        unfold swapL
        rw [List.getD_eq_getElem?_getD, List.getElem?_eq_getElem hkl, List.getD_eq_getElem?_getD, List.getElem?_eq_getElem hil]; rfl
      have HV := Lib.hid hv
      have O6 := Lib.hid o6
      have hB6 := Lib.hid (bdr ((((bnext hbw hb4).setCell (p := ⟨g4, i, none⟩) hgb (.int .i64 out[k])).setCell (p := ⟨g4, k, none⟩) hgb (.int .i64 out[i]))))
      clear o4 o5 o6 hv
      go_wp2_with fail
      go_region
      go_wp2_with fail
      go_roundg G
      case measure => rw [HG.out]; omega
      case rel => exact ⟨G - 1, swapL out i k, by omega, HG2.out, by rw [swapL_len]; exact HOl.out, HAll.out, by rw [show G - 1 + 1 = G by omega]; exact HNx.out, by rw [HV.out]; exact O6.out, hB6.out⟩
set_option maxHeartbeats 6400000 in
set_option maxRecDepth 10000 in
theorem spec_ImproveArrange_any (x : TBasket) (hx : okBasket x) (A : Option Addr) (c : Nat) (xs : List (List Int)) (hxl : xs.length ≤ 1048576) (hu : ∀ r ∈ xs, r.length ≤ 1048576 ∧ ∀ x ∈ r, I64 x) (B : Option Addr) (d : Nat) (ps : List Int) (hpl : ps.length ≤ 1048576) (hk64 : ∀ n ∈ ps, KInt64S n) (hcap : ps.length ≤ d) (w : World) (rx : RowXX w A xs) (ry : Row w B encInt 1 ps) :
    Calls Try.prog 69 #[.agg #[.int .i64 x.1, .int .i64 x.2.1, .int .i64 x.2.2.1, .int .i64 x.2.2.2.1, .int .i64 x.2.2.2.2], .slice A xs.length c, .slice B ps.length d] w (RLE encInt 1 2 (M_ImproveArrange x xs ps) w) := by
  obtain ⟨i0, hi0, hz, hsz, hby⟩ := info_parts info_Int64S
  obtain ⟨W0, hW0⟩ : ∃ W0, W0 = w.alloc (.cells #[.int .i64 x.1, .int .i64 x.2.1, .int .i64 x.2.2.1, .int .i64 x.2.2.2.1, .int .i64 x.2.2.2.2] 32) := ⟨_, rfl⟩
  have hB0 : Below w.heap.size w W0 := by rw [hW0]; exact bal (Below.refl _ _) _
  have k0 : AtBasket W0 w.heap.size x := by rw [hW0]; exact AtBasket.new w _ x
  have HW := Lib.hid hW0
  clear hW0
  have hcb := arrCode_bd x xs ps
  obtain ⟨hcb1, hcb2⟩ := hcb
  by_cases h : ArrAll x xs ps
  case neg =>
    have HM := Lib.hid (show M_ImproveArrange x xs ps = ([], arrCode x xs ps) by unfold M_ImproveArrange; rw [if_neg h])
    have hne := arrCode_ne h
    clear h
    go_enter Try.func69, Try.ntmps69
    go_wp2_with fail
    rw [← HW.out]
    refine (l05Code_any x _ _ xs hxl hu _ _ ps hpl hk64 hcap _ (rx.below hB0) (ry.below hB0)).mono ?_; rintro e w1 ⟨n, rfl, hn, hb1⟩
    rw [← hn] at hne hcb1 hcb2
    have HN := Lib.hid hn
    have tn : (n != 0) = true := by rw [bne_iff_ne]; exact hne
    clear hn hne
    go_wp2_with fail
    go_ret2
    exact RLE.no (fun _ => rfl) (by rw [HM.out, HN.out]) (bnext hB0 hb1)
  obtain ⟨R, hR⟩ : ∃ R, R = improveL x xs ps := ⟨_, rfl⟩
  have HM := Lib.hid (show M_ImproveArrange x xs ps = (R, 0) by unfold M_ImproveArrange; rw [if_pos h, hR])
  have hRl : R.length = ps.length := by rw [hR]; unfold improveL; exact impGo_len x xs _ ps
  have HRl := Lib.hid hRl
  have HR := Lib.hid hR
  have HC := Lib.hid (arrCode_zero h)
  have HA := Lib.hid h
  have hn1 := h.1.2.1.1
  have hn2 := h.1.2.1.2
  have hnn := h.2.1
  have HNN := Lib.hid hnn
  have hp2 : 2 ≤ ps.length := by omega
  have hp7 : ps.length ≤ 7 := by omega
  clear h hR hRl hnn
  obtain ⟨bq, offq, hAq, hbq, cq⟩ := ry.at1 (f := fun x : Int => .int .i64 x) (k := 0) (by omega)
  subst hAq
  go_enter Try.func69, Try.ntmps69
  go_wp2_with fail
  rw [← HW.out]
  refine (l05Code_any x _ _ xs hxl hu _ _ ps hpl hk64 hcap _ (rx.below hB0) (ry.below hB0)).mono ?_; rintro e w1 ⟨n, rfl, hn, hb1⟩
  replace hn := hn.trans HC.out
  subst hn
  have k1 := k0.next hb1
  have hB1 := bnext hB0 hb1
  go_wp2_with fail
  refine (l00Own_any _ _ ps hpl (by omega) _ (ry.below hB1)).mono ?_; rintro e w2 ⟨v2, rfl, o2, hb2⟩
  go_wp2_with fail
  go_loopg [9] ((costA x xs ps).toNat + 1) (fun g vs wr => ∃ (G : Nat) (out : List Int), g = G + 1 ∧ (costA x xs out).toNat ≤ G ∧ out.length = ps.length ∧ (∀ j (h : j < out.length), 0 ≤ out[j] ∧ out[j] ≤ 60) ∧ impGo x xs (G + 1) out = R ∧ Own wr w1.heap.size 2 encInt 1 vs out ∧ Below w1.heap.size w1 wr)
  case atStart => exact ⟨(costA x xs ps).toNat, ps, rfl, Nat.le_refl _, rfl, places_at HA.out.1.1 HA.out.2.2, HR.out.symm, o2, hb2⟩
  case round =>
    obtain ⟨G, out, hg, hcG, hol, hoA, hgo, hown, hbw⟩ := hrel
    have HG := Lib.hid hg
    have HcG := Lib.hid hcG
    have HOl := Lib.hid hol
    have HOA := Lib.hid hoA
    have HGo := Lib.hid hgo
    have hol7 : out.length ≤ 7 := by omega
    have hol2 : 2 ≤ out.length := by omega
    have k2 := k1.next hbw
    have hB2 := bnext hB1 hbw
    obtain ⟨A2, c2, rfl, r2, hob⟩ := hown.form
    have HOb := Lib.hid hob
    clear hg hcG hol hoA hgo hob
    go_wp2_with fail
    have hcall := l05Best_any x HA.out.1.1 _ c xs HA.out.1.2 _ c2 out (HOl.out.trans HNN.out) HOA.out _ (rx.below hB2) r2
    
    refine hcall.mono ?_; rintro e w4 ⟨hb4, n0, n1, rfl, hx0, hx1⟩
    clear hcall
    have HX0 := Lib.hid hx0
    have HX1 := Lib.hid hx1
    
    clear hx0 hx1 
    obtain ⟨o, ho⟩ : ∃ o, bestSw x xs out = o := ⟨_, rfl⟩
    have HO := Lib.hid ho
    clear ho
    cases o with
    | none =>
      have e0 : n0 = -1 := by rw [HX0.out, HO.out]; rfl
      have e1 : n1 = -1 := by rw [HX1.out, HO.out]; rfl
      
      have hfin : out = R := by
        have := HGo.out
        unfold impGo at this
        rw [HO.out] at this
        exact this
      have HF := Lib.hid hfin
      clear hfin HX0 HX1 
      subst e0
      subst e1
      
      go_wp2_with fail
      go_ret2
      exact RLE.mk (by rw [HM.out, HF.out]) (by omega) ((hown.below hb4).mono hB1.size) (bnext hB2 hb4)
    | some ab =>
      obtain ⟨i, k⟩ := ab
      have hsw := bestSw_some HO.out
      have e0 : n0 = (i : Int) := by rw [HX0.out, HO.out]; rfl
      have e1 : n1 = (k : Int) := by rw [HX1.out, HO.out]; rfl
      
      have hnx : impGo x xs G (swapL out i k) = R := by
        have := HGo.out
        unfold impGo at this
        rw [HO.out] at this
        exact this
      have hil := hsw.1.1
      have hkl := hsw.1.2
      have HCl := Lib.hid hsw.2
      have HNx := Lib.hid hnx
      have hcb0 := (costA_bd x HA.out.1.1 xs HA.out.1.2 (swapL out i k)).1
      have hG1 : 1 ≤ G := by have := HCl.out; have := HcG.out; omega
      have hcG2 : (costA x xs (swapL out i k)).toNat ≤ G - 1 := by have := HCl.out; have := HcG.out; omega
      have HG2 := Lib.hid hcG2
      have HAll := Lib.hid (swapL_all (p := fun n => 0 ≤ n ∧ n ≤ 60) hil hkl HOA.out)
      have i1 : (0 : Int) ≤ (i : Int) := by omega
      have i2 : (i : Int) < (out.length : Int) := by omega
      have i3 : (0 : Int) ≤ (k : Int) := by omega
      have i4 : (k : Int) < (out.length : Int) := by omega
      have i5 : ¬ ((i : Int) < 0) := by omega
      have i6 : (i : Int) < (ps.length : Int) := by have := HOl.out; omega
      have i7 : (k : Int) < (ps.length : Int) := by have := HOl.out; omega
      clear hnx HX0 HX1  hcG2 hsw hcb0
      subst e0
      subst e1
      
      go_wp2_with fail
      refine (l05Swap_any _ _ out (by omega) i k hil hkl _ (r2.below hb4)).mono ?_; rintro e w5 ⟨v5, rfl, o5, hb5⟩
      go_wp2_with fail
      go_roundg G
      case measure => rw [HG.out]; omega
      case rel => exact ⟨G - 1, swapL out i k, by omega, HG2.out, by rw [swapL_len]; exact HOl.out, HAll.out, by rw [show G - 1 + 1 = G by omega]; exact HNx.out, o5.mono (bnext hbw hb4).size, bnext (bnext hbw hb4) hb5⟩
end Go.Proofs.Ytbcomfobnhekpaa
