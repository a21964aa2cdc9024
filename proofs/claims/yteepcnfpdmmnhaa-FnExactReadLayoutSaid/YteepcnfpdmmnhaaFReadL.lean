/-
  FReadL: the layout with a text form: ReadLayout, spec and impl.
-/
import Derived.Test.YteepcnfpdmmnhaaFFault
import Derived.Test.YteepcnfpdmmnhaaFSplit
import Derived.Test.YteepcnfpdmmnhaaBlk1
import Derived.Test.YteepcnfpdmmnhaaAppReg
import Derived.Deep.RegionHeld3
namespace Go.Proofs.Yteepcnfpdmmnhaa
open Go.RowKit
set_option linter.unusedVariables false
attribute [local go_sem ↓] Go.wp_at_zero Go.wp_at_succ
set_option linter.unusedSimpArgs false
/-- A layout of the call's own and a bool. -/
def RLYB (E : TypeId) (m : List ByteArray × Bool) (w : World) (e : Ending) (w' : World) : Prop :=
  ∃ (v : Value) (ys : List ByteArray) (n : Bool), e = .returned (.tuple #[.agg #[v], .bool n]) ∧ (ys, n) = m ∧ ys.length ≤ 1048576 ∧ Own w' w.heap.size E encStr 1 v ys ∧ Below w.heap.size w w'
def M_ReadLayout (s : ByteArray) : List ByteArray × Bool := if (M_LayoutFault s).1 = 0 then (splitL s 47, true) else ([], false)
theorem sp_len1 (s : ByteArray) (c : UInt8) (h : 0 < s.size) (hc : s[0] ≠ c) : (splitL s c).length ≤ s.size := by
  unfold splitL
  have h1 := sp_step s c 0 0 h
  rw [Nat.sub_zero] at h1
  rw [h1, if_neg hc]
  have := sp_len s c (s.size - (0 + 1)) (0 + 1) 0
  omega
theorem fault_first (s : ByteArray) (h : 0 < s.size) (hf : (M_LayoutFault s).1 = 0) : s[0] ≠ 47 := by
  intro hc
  have hd : s.data.toList = s[0] :: s.data.toList.drop 1 := by
    have := List.drop_eq_getElem_cons (l := s.data.toList) (i := 0) (by simpa using h)
    rw [List.drop_zero] at this
    exact this
  unfold M_LayoutFault at hf
  rw [hd, faultGo, if_pos (by rw [hc]; rfl), if_pos (.inl rfl)] at hf
  simp at hf
theorem split_len (s : ByteArray) (hs : s.size ≤ 1048576) (hf : (M_LayoutFault s).1 = 0) : (splitL s 47).length ≤ 1048576 := by
  rcases Nat.eq_zero_or_pos s.size with h | h
  · have := sp_len s 47 s.size 0 0
    unfold splitL
    omega
  · have := sp_len1 s 47 h (fault_first s h hf)
    omega
set_option maxHeartbeats 1600000 in
set_option maxRecDepth 10000 in
theorem spec_ReadLayout_any (s : ByteArray) (hs : s.size ≤ 1048576) (w : World) : Calls Try.prog 28 #[.string s] w (RLYB 9 (M_ReadLayout s) w) := by
  have r0 := At1.new w 46 (.slice none 0 0)
  have hB0 : Below w.heap.size w (w.alloc (.cells #[.slice none 0 0] 46)) := bal (Below.refl _ _) _
  have FC := l06Fault_any s hs (w.alloc (.cells #[.slice none 0 0] 46))
  obtain ⟨M, hM⟩ : ∃ M, M_LayoutFault s = M := ⟨_, rfl⟩
  rw [hM] at FC
  obtain ⟨m0, m1⟩ := M
  by_cases h : m0 = 0
  · subst h
    have HM := Lib.hid (show M_ReadLayout s = (splitL s 47, true) by unfold M_ReadLayout; rw [hM, if_pos rfl])
    have HL := Lib.hid (split_len s hs (by rw [hM]))
    have HFC := Lib.hid FC
    clear FC hM
    have SC := fun W => l01Split_any s hs 47 W
    have HSC := Lib.hid SC
    clear SC
    go_enter Try.func28, Try.ntmps28
    go_wp2_with (first | (go_at_call 80; refine HFC.out.mono ?_; rintro e w1 ⟨n0, n1, rfl, hn, hb1⟩; simp only [Prod.mk.injEq] at hn; obtain ⟨rfl, rfl⟩ := hn; have r1 := r0.below hb1; have hB1 := bnext hB0 hb1) | (go_at_call 81; refine (HSC.out _).mono ?_; rintro e w2 ⟨v2, rfl, ho2, hb2⟩; obtain ⟨A2, n2, c2, rfl⟩ := own_slice ho2; have r2 := r1.below hb2; have q0 := r2.cell0; have qf := r2.frozen 0; have x1 := (r2.set0 (.slice A2 n2 c2)).cell0; have hlt := r1.lt))
    refine bodyPost_ret (v := .tuple #[.agg #[.slice A2 n2 c2], .bool true]) (by simp [results, Try.results28, go_sem, x1]) rfl ⟨.slice A2 n2 c2, _, true, rfl, HM.out.symm, HL.out, (ho2.setBelow (a := (⟨w.heap.size, 0, none⟩ : Addr)) hlt _).mono hB1.size, bst (bnext hB1 hb2) (p := ⟨w.heap.size, 0, none⟩) (Nat.le_refl _) _⟩
  · have HM := Lib.hid (show M_ReadLayout s = ([], false) by unfold M_ReadLayout; rw [hM, if_neg h])
    have HFC := Lib.hid FC
    have tn : (m0 != 0) = true := by rw [bne_iff_ne]; exact h
    clear FC hM h
    go_enter Try.func28, Try.ntmps28
    go_wp2_with (go_at_call 80; refine HFC.out.mono ?_; rintro e w1 ⟨n0, n1, rfl, hn, hb1⟩; simp only [Prod.mk.injEq] at hn; obtain ⟨rfl, rfl⟩ := hn; have r1 := r0.below hb1; have hB1 := bnext hB0 hb1; have q0 := r1.cell0; have qf := r1.frozen 0; have x1 := (r1.set0 (.slice none 0 0)).cell0)
    refine bodyPost_ret (v := .tuple #[.agg #[.slice none 0 0], .bool false]) (by simp [results, Try.results28, go_sem, x1]) rfl ⟨.slice none 0 0, [], false, rfl, HM.out.symm, by simp, (Own.nilv (e := encStr) (s := 1) _ (fun _ => rfl) w.heap.size 9), bst hB1 (p := ⟨w.heap.size, 0, none⟩) (Nat.le_refl _) _⟩
set_option maxHeartbeats 6400000 in
set_option maxRecDepth 10000 in
theorem impl_ReadLayout_any (s : ByteArray) (hs : s.size ≤ 1048576) (w : World) : Calls Try.prog 29 #[.string s] w (RLYB 9 (M_ReadLayout s) w) := by
  obtain ⟨i0, hi0, hz, hsz, hby⟩ := info_parts info_StringS
  have r0 := At1.new w 46 (.slice none 0 0)
  have hB0 : Below w.heap.size w (w.alloc (.cells #[.slice none 0 0] 46)) := bal (Below.refl _ _) _
  have FC := impl_LayoutFault_any s hs (w.alloc (.cells #[.slice none 0 0] 46))
  obtain ⟨M, hM⟩ : ∃ M, M_LayoutFault s = M := ⟨_, rfl⟩
  rw [hM] at FC
  obtain ⟨m0, m1⟩ := M
  by_cases h : m0 = 0
  case neg =>
    have HM := Lib.hid (show M_ReadLayout s = ([], false) by unfold M_ReadLayout; rw [hM, if_neg h])
    have HFC := Lib.hid FC
    have tn : (m0 != 0) = true := by rw [bne_iff_ne]; exact h
    clear FC hM h
    go_enter Try.func29, Try.ntmps29
    go_wp2_with (go_at_call 82; refine HFC.out.mono ?_; rintro e w1 ⟨n0, n1, rfl, hn, hb1⟩; simp only [Prod.mk.injEq] at hn; obtain ⟨rfl, rfl⟩ := hn; have r1 := r0.below hb1; have hB1 := bnext hB0 hb1; have q0 := r1.cell0; have qf := r1.frozen 0; have x1 := (r1.set0 (.slice none 0 0)).cell0)
    refine bodyPost_ret (v := .tuple #[.agg #[.slice none 0 0], .bool false]) (by simp [results, Try.results29, go_sem, x1]) rfl ⟨.slice none 0 0, [], false, rfl, HM.out.symm, by simp, (Own.nilv (e := encStr) (s := 1) _ (fun _ => rfl) w.heap.size 9), bst hB1 (p := ⟨w.heap.size, 0, none⟩) (Nat.le_refl _) _⟩
  subst h
  have HM := Lib.hid (show M_ReadLayout s = (splitL s 47, true) by unfold M_ReadLayout; rw [hM, if_pos rfl])
  have HL := Lib.hid (split_len s hs (by rw [hM]))
  have HFC := Lib.hid FC
  obtain ⟨R, hR⟩ : ∃ R, splitL s 47 = R := ⟨_, rfl⟩
  have HR := Lib.hid hR
  have HMR := Lib.hid (show M_ReadLayout s = (R, true) by rw [HM.out, hR])
  have HLR := Lib.hid (show R.length ≤ 1048576 by rw [← hR]; exact HL.out)
  clear FC hM hR HM HL
  have HM := HMR
  have HL := HLR
  go_enter Try.func29, Try.ntmps29
  go_wp2_with (go_at_call 82; refine HFC.out.mono ?_; rintro e w1 ⟨n0, n1, rfl, hn, hb1⟩; simp only [Prod.mk.injEq] at hn; obtain ⟨rfl, rfl⟩ := hn; have r1 := r0.below hb1; have hB1 := bnext hB0 hb1; have hw1 := r1.lt)
  obtain ⟨BS, hBS⟩ : ∃ BS, BS = w1.heap.size := ⟨_, rfl⟩
  have o1 := Own.nilv (e := encStr) (s := 1) w1 (fun _ => rfl) BS 9
  have t1 := At1.new w1 46 (.slice none 0 0)
  have o2 := o1.below (bal (Below.refl _ _) (.cells #[.slice none 0 0] 46))
  have r2 := r1.alloc (.cells #[.slice none 0 0] 46)
  have hB2 := bal hB1 (.cells #[.slice none 0 0] 46)
  have HBS := Lib.hid (show BS ≤ w1.heap.size by omega)
  have HB01 := Lib.hid (show w.heap.size < BS by omega)
  have H2 := Lib.hid (And.intro t1 (And.intro o2 (And.intro r2 hB2)))
  clear t1 o2 r2 hB2 o1 hBS r1 r0 hB0 hB1 hb1 hw1 HFC
  go_loopg [7, 20] s.size (fun g fs is wr => ∃ (i f : Nat) (acc : List ByteArray) (v : Value), i ≤ s.size ∧ g = s.size - i ∧ f ≤ i ∧ acc.length ≤ i ∧ acc ++ spGo s 47 (s.size - i) i f = R ∧ Own wr BS 9 encStr 1 v acc ∧ Apart v w1.heap.size ∧ At1 wr w1.heap.size 46 v ∧ At1 wr w.heap.size 46 (.slice none 0 0) ∧ Below w.heap.size w wr ∧ fs = .int .i64 f ∧ is = .int .i64 i)
  case atStart =>
    obtain ⟨t1, o2, r2, hB2⟩ := H2.out
    exact ⟨0, 0, [], _, Nat.zero_le _, rfl, Nat.le_refl _, Nat.zero_le _, by rw [Nat.sub_zero]; exact HR.out, o2, Apart.none, t1, r2, hB2, rfl, rfl⟩
  case round =>
    obtain ⟨i, f, acc, v, hii, hg, hfi, hal, hgo, hown, hap, ht, hrr, hbw, rfl, rfl⟩ := hrel
    obtain ⟨WO, rfl⟩ : ∃ WO, WO = wr := ⟨wr, rfl⟩
    obtain ⟨A2, n2, c2, rfl⟩ := own_slice hown
    have HG := Lib.hid hg
    clear hg H2
    have i4 : (i : Int) ≤ (s.size : Int) := by omega
    have i3 : (f : Int) ≤ (i : Int) := by omega
    have i5 : (0 : Int) ≤ (f : Int) := by omega
    have i6 : (f : Int) ≤ (s.size : Int) := by omega
    have i7 : (0 : Int) ≤ (s.size : Int) := by omega
    have i1 : (0 : Int) ≤ (i : Int) := by omega
    by_cases hlt : i < s.size
    · rw [sp_step s 47 i f hlt] at hgo
      have hc := UInt8.toNat_lt s[i]
      have i2 : (i : Int) < (s.size : Int) := by omega
      by_cases he : s[i] = 47
      · have te : (((s[i].toNat : Nat) : Int) == 47) = true := by rw [he]; rfl
        rw [if_pos he] at hgo
        have HF := Lib.hid hgo
        clear hgo he
        obtain ⟨T, hT⟩ : ∃ T, s.extract f i = T := ⟨_, rfl⟩
        have HT := Lib.hid hT
        have ow2 := (hown.below (bdr (Below.refl _ _))).below (bal (Below.refl _ _) (.cells #[.string T] 9))
        have hbs' : BS ≤ WO.heap.size := Nat.le_trans HBS.out (Nat.le_of_lt ht.lt)
        have hbs2 : BS ≤ (WO.drew.alloc (.cells #[.string T] 9)).heap.size := by rw [World.size_alloc]; exact Nat.le_succ_of_le hbs'
        obtain ⟨v2, w4, hrun, hown2', hg2, _, hat2⟩ := run_append_own_at (P := Try.prog) (w := WO.drew.alloc (.cells #[.string T] 9)) BS 44 44 9 i0 _ 1 16 Try.underlying44 hi0 hz hsz hby rfl (by omega) _ _ _ ow2.2 ⟨WO.heap.size, 0, none⟩ 1 1 [.string T] rfl (cell_one_new WO.drew _ 9) (by simp [Value.oneCell']) (by unfold maxLen; omega) (by omega) hbs2
        have hown2 : Own w4 BS 9 encStr 1 v2 (acc ++ [T]) := ⟨fun _ => rfl, by rw [List.flatMap_append, List.length_append]; simpa using hown2'⟩
        clear hown2'
        obtain ⟨A5, n5, c5, rfl⟩ := own_slice hown2
        have hma := (show At1 WO.drew w1.heap.size 46 (.slice A2 n2 c2) from ht).alloc (.cells #[.string T] 9)
        have hra := (show At1 WO.drew w.heap.size 46 (.slice none 0 0) from hrr).alloc (.cells #[.string T] 9)
        have hm3 := hma.grown hg2 hap.ne
        have hr3 := hra.grown hg2 (own_ne ow2 (by have := HB01.out; omega))
        have ap2 := hap.next (by have := hma.lt; exact this) hat2
        have hb8 : Below w.heap.size w w4 := (bal (bdr hbw) (.cells #[.string T] 9)).trans (below_own (B := w.heap.size) ow2 hg2 (by have := HB01.out; omega) (Nat.le_trans (by have := HB01.out; omega) hbs2))
        have x0 : WO.drew.cell? ⟨w1.heap.size, 0, none⟩ = some (.slice A2 n2 c2) := ht.cell0
        have x1 := hma.cell0
        have x1' : (WO.alloc (.cells #[.string T] 9)).drew.cell? ⟨w1.heap.size, 0, none⟩ = some (.slice A2 n2 c2) := hma.cell0
        have x2 := hm3.cell0
        have x3 := hm3.frozen 0
        have HM4 := Lib.hid (hm3.set0 (.slice A5 n5 c5))
        have HR4 := Lib.hid (hr3.setOther w1.heap.size 0 (.slice A5 n5 c5) (by have := HB01.out; have := HBS.out; omega))
        have HO4 := Lib.hid (hown2.kept (grown_cs _ w1.heap.size 0 (.slice A5 n5 c5)) ap2.or)
        have HB8 := Lib.hid (bst hb8 (p := ⟨w1.heap.size, 0, none⟩) (by show w.heap.size ≤ w1.heap.size; have := HB01.out; have := HBS.out; omega) (.slice A5 n5 c5))
        clear hma hra hm3 hr3 hb8 hat2 hg2 ow2 hown2
        go_wp2_with fail
        refine wp_region_held_drew (S := fun _ => True) (by kernel_rfl) trivial (fun _ => ?_)
        refine wpAnyH_take (i := 0) (v := ?_) rfl (by kernel_rfl) (by kernel_rfl) (by kernel_rfl) (fun _ _ _ h => h) (Or.inl ⟨by rfl, ?_⟩) trivial ?_
        rotate_left
        · (intro w hSw; go_simp; try with_reducible rfl)
        try simp only [Act.put, List.getElem_toArray, List.getElem_cons_zero, List.getElem_cons_succ, List.setIfInBounds_toArray, List.set_cons_zero, List.set_cons_succ]
        refine wpAnyH_take (i := 2) (v := ?_) rfl (by kernel_rfl) (by kernel_rfl) (by kernel_rfl) (fun _ _ _ h => h) (Or.inl ⟨by rfl, ?_⟩) trivial ?_
        rotate_left
        · (intro w hSw; go_simp; try with_reducible rfl)
        try simp only [Act.put, List.getElem_toArray, List.getElem_cons_zero, List.getElem_cons_succ, List.setIfInBounds_toArray, List.set_cons_zero, List.set_cons_succ]
        refine wpAnyH_take (i := 3) (v := ?_) rfl (by kernel_rfl) (by kernel_rfl) (by kernel_rfl) (fun _ _ _ h => h) (Or.inl ⟨by rfl, ?_⟩) trivial ?_
        rotate_left
        · (intro w hSw; go_simp; try with_reducible rfl)
        try simp only [Act.put, List.getElem_toArray, List.getElem_cons_zero, List.getElem_cons_succ, List.setIfInBounds_toArray, List.set_cons_zero, List.set_cons_succ]
        refine wpAnyH_take (i := 4) (v := ?_) rfl (by kernel_rfl) (by kernel_rfl) (by kernel_rfl) (fun _ _ _ h => h) (Or.inl ⟨by rfl, ?_⟩) trivial ?_
        rotate_left
        · (intro w hSw; go_simp; try with_reducible rfl)
        try simp only [Act.put, List.getElem_toArray, List.getElem_cons_zero, List.getElem_cons_succ, List.setIfInBounds_toArray, List.set_cons_zero, List.set_cons_succ]
        refine wpAnyH_take (i := 5) (v := ?_) rfl (by kernel_rfl) (by kernel_rfl) (by kernel_rfl) (fun _ _ _ h => h) (Or.inl ⟨by rfl, ?_⟩) trivial ?_
        rotate_left
        · (intro w hSw; go_simp; try with_reducible rfl)
        try simp only [Act.put, List.getElem_toArray, List.getElem_cons_zero, List.getElem_cons_succ, List.setIfInBounds_toArray, List.set_cons_zero, List.set_cons_succ]
        refine wpAnyH_ready (rs := [1, 6]) (by kernel_rfl) (by simp) ?_
        refine AllReadyH.cons rfl (fun K hK => ?_) (AllReadyH.cons rfl (fun K hK => ?_) AllReadyH.nil)
        · go_simp
          refine hK.out _ _ trivial (fun _ => ?_)
          clear hK K
          try simp only [Act.put, List.getElem_toArray, List.getElem_cons_zero, List.getElem_cons_succ, List.setIfInBounds_toArray, List.set_cons_zero, List.set_cons_succ]
          refine wpAnyH_ready (rs := [6]) (by kernel_rfl) (by simp) ?_
          refine AllReadyH.cons rfl (fun K hK => ?_) AllReadyH.nil
          go_simp
          try rw [HT.out]
          refine hK.out _ _ trivial (fun _ => ?_)
          clear hK K
          try simp only [Act.put, List.getElem_toArray, List.getElem_cons_zero, List.getElem_cons_succ, List.setIfInBounds_toArray, List.set_cons_zero, List.set_cons_succ]
          refine wpAnyH_ready (rs := [7]) (by kernel_rfl) (by simp) ?_
          refine AllReadyH.cons rfl (fun K hK => ?_) AllReadyH.nil
          rw [if_pos (by rfl)]
          refine append_wp _ _ _ rfl _ _ _ rfl rfl hrun ?_
          refine hK.out _ _ trivial (fun _ => ?_)
          clear hK K
          try simp only [Act.put, List.getElem_toArray, List.getElem_cons_zero, List.getElem_cons_succ, List.setIfInBounds_toArray, List.set_cons_zero, List.set_cons_succ]
          refine wpAnyH_take (i := 8) (v := ?_) rfl (by kernel_rfl) (by kernel_rfl) (by kernel_rfl) (fun _ _ _ h => h) (Or.inl ⟨by rfl, ?_⟩) trivial ?_
          rotate_left
          · (intro w hSw; go_simp; try with_reducible rfl)
          try simp only [Act.put, List.getElem_toArray, List.getElem_cons_zero, List.getElem_cons_succ, List.setIfInBounds_toArray, List.set_cons_zero, List.set_cons_succ]
          refine wpAnyH_ready (rs := [9]) (by kernel_rfl) (by simp) ?_
          refine AllReadyH.cons rfl (fun K hK => ?_) AllReadyH.nil
          go_simp
          refine hK.out _ _ trivial (fun _ => ?_)
          clear hK K
          try simp only [Act.put, List.getElem_toArray, List.getElem_cons_zero, List.getElem_cons_succ, List.setIfInBounds_toArray, List.set_cons_zero, List.set_cons_succ]
          refine wpAnyH_done (by kernel_rfl) ?_ _
          go_wp2_with fail
          go_roundg (s.size - (i + 1))
          case measure => rw [HG.out]; omega
          case rel => exact ⟨i + 1, i + 1, acc ++ [T], .slice A5 n5 c5, by omega, rfl, by omega, by simp; omega, by rw [List.append_assoc, ← HT.out]; exact HF.out, HO4.out, ap2, HM4.out, HR4.out, HB8.out, by go_num, by go_num⟩
        · go_simp
          try rw [HT.out]
          refine hK.out _ _ trivial (fun _ => ?_)
          clear hK K
          try simp only [Act.put, List.getElem_toArray, List.getElem_cons_zero, List.getElem_cons_succ, List.setIfInBounds_toArray, List.set_cons_zero, List.set_cons_succ]
          refine wpAnyH_ready (rs := [1]) (by kernel_rfl) (by simp) ?_
          refine AllReadyH.cons rfl (fun K hK => ?_) AllReadyH.nil
          go_simp
          refine hK.out _ _ trivial (fun _ => ?_)
          clear hK K
          try simp only [Act.put, List.getElem_toArray, List.getElem_cons_zero, List.getElem_cons_succ, List.setIfInBounds_toArray, List.set_cons_zero, List.set_cons_succ]
          refine wpAnyH_ready (rs := [7]) (by kernel_rfl) (by simp) ?_
          refine AllReadyH.cons rfl (fun K hK => ?_) AllReadyH.nil
          rw [if_pos (by rfl)]
          refine append_wp _ _ _ rfl _ _ _ rfl rfl hrun ?_
          refine hK.out _ _ trivial (fun _ => ?_)
          clear hK K
          try simp only [Act.put, List.getElem_toArray, List.getElem_cons_zero, List.getElem_cons_succ, List.setIfInBounds_toArray, List.set_cons_zero, List.set_cons_succ]
          refine wpAnyH_take (i := 8) (v := ?_) rfl (by kernel_rfl) (by kernel_rfl) (by kernel_rfl) (fun _ _ _ h => h) (Or.inl ⟨by rfl, ?_⟩) trivial ?_
          rotate_left
          · (intro w hSw; go_simp; try with_reducible rfl)
          try simp only [Act.put, List.getElem_toArray, List.getElem_cons_zero, List.getElem_cons_succ, List.setIfInBounds_toArray, List.set_cons_zero, List.set_cons_succ]
          refine wpAnyH_ready (rs := [9]) (by kernel_rfl) (by simp) ?_
          refine AllReadyH.cons rfl (fun K hK => ?_) AllReadyH.nil
          go_simp
          refine hK.out _ _ trivial (fun _ => ?_)
          clear hK K
          try simp only [Act.put, List.getElem_toArray, List.getElem_cons_zero, List.getElem_cons_succ, List.setIfInBounds_toArray, List.set_cons_zero, List.set_cons_succ]
          refine wpAnyH_done (by kernel_rfl) ?_ _
          go_wp2_with fail
          go_roundg (s.size - (i + 1))
          case measure => rw [HG.out]; omega
          case rel => exact ⟨i + 1, i + 1, acc ++ [T], .slice A5 n5 c5, by omega, rfl, by omega, by simp; omega, by rw [List.append_assoc, ← HT.out]; exact HF.out, HO4.out, ap2, HM4.out, HR4.out, HB8.out, by go_num, by go_num⟩
      · have te : (((s[i].toNat : Nat) : Int) == 47) = false := by
          rw [beq_eq_false_iff_ne]
          intro hh
          exact he (UInt8.toNat_inj.1 (by show _ = 47; omega))
        rw [if_neg he] at hgo
        have HF := Lib.hid hgo
        clear hgo he
        go_wp2_with fail
        go_roundg (s.size - (i + 1))
        case measure => rw [HG.out]; omega
        case rel => exact ⟨i + 1, f, acc, .slice A2 n2 c2, by omega, rfl, by omega, by omega, HF.out, hown, hap, ht, hrr, hbw, by go_num, by go_num⟩
    · have hil : i = s.size := by omega
      rw [show s.size - i = 0 by omega] at hgo
      have HF := Lib.hid (show acc ++ [s.extract f s.size] = R from hgo)
      clear hgo
      obtain ⟨T, hT⟩ : ∃ T, s.extract f s.size = T := ⟨_, rfl⟩
      have HT := Lib.hid hT
      have ow2 := (hown.below (bdr (Below.refl _ _))).below (bal (Below.refl _ _) (.cells #[.string T] 9))
      have hbs' : BS ≤ WO.heap.size := Nat.le_trans HBS.out (Nat.le_of_lt ht.lt)
      have hbs2 : BS ≤ (WO.drew.alloc (.cells #[.string T] 9)).heap.size := by rw [World.size_alloc]; exact Nat.le_succ_of_le hbs'
      obtain ⟨v2, w4, hrun, hown2', hg2, _, hat2⟩ := run_append_own_at (P := Try.prog) (w := WO.drew.alloc (.cells #[.string T] 9)) BS 44 44 9 i0 _ 1 16 Try.underlying44 hi0 hz hsz hby rfl (by omega) _ _ _ ow2.2 ⟨WO.heap.size, 0, none⟩ 1 1 [.string T] rfl (cell_one_new WO.drew _ 9) (by simp [Value.oneCell']) (by unfold maxLen; omega) (by omega) hbs2
      have hown2 : Own w4 BS 9 encStr 1 v2 (acc ++ [T]) := ⟨fun _ => rfl, by rw [List.flatMap_append, List.length_append]; simpa using hown2'⟩
      clear hown2'
      obtain ⟨A5, n5, c5, rfl⟩ := own_slice hown2
      have hma := (show At1 WO.drew w1.heap.size 46 (.slice A2 n2 c2) from ht).alloc (.cells #[.string T] 9)
      have hra := (show At1 WO.drew w.heap.size 46 (.slice none 0 0) from hrr).alloc (.cells #[.string T] 9)
      have hm3 := hma.grown hg2 hap.ne
      have hr3 := hra.grown hg2 (own_ne ow2 (by have := HB01.out; omega))
      have ap2 := hap.next (by have := hma.lt; exact this) hat2
      have hb8 : Below w.heap.size w w4 := (bal (bdr hbw) (.cells #[.string T] 9)).trans (below_own (B := w.heap.size) ow2 hg2 (by have := HB01.out; omega) (Nat.le_trans (by have := HB01.out; omega) hbs2))
      have x0 : WO.drew.cell? ⟨w1.heap.size, 0, none⟩ = some (.slice A2 n2 c2) := ht.cell0
      have x1 := hma.cell0
      have x1' : (WO.alloc (.cells #[.string T] 9)).drew.cell? ⟨w1.heap.size, 0, none⟩ = some (.slice A2 n2 c2) := hma.cell0
      have x2 := hm3.cell0
      have x3 := hm3.frozen 0
      have HM4 := Lib.hid (hm3.set0 (.slice A5 n5 c5))
      have HR4 := Lib.hid (hr3.setOther w1.heap.size 0 (.slice A5 n5 c5) (by have := HB01.out; have := HBS.out; omega))
      have HO4 := Lib.hid (hown2.kept (grown_cs _ w1.heap.size 0 (.slice A5 n5 c5)) ap2.or)
      have HB8 := Lib.hid (bst hb8 (p := ⟨w1.heap.size, 0, none⟩) (by show w.heap.size ≤ w1.heap.size; have := HB01.out; have := HBS.out; omega) (.slice A5 n5 c5))
      clear hma hra hm3 hr3 hb8 hat2 hg2 ow2 hown2
      go_wp2_with fail
      refine wp_region_held_drew (S := fun _ => True) (by kernel_rfl) trivial (fun _ => ?_)
      refine wpAnyH_take (i := 0) (v := ?_) rfl (by kernel_rfl) (by kernel_rfl) (by kernel_rfl) (fun _ _ _ h => h) (Or.inl ⟨by rfl, ?_⟩) trivial ?_
      rotate_left
      · (intro w hSw; go_simp; try with_reducible rfl)
      try simp only [Act.put, List.getElem_toArray, List.getElem_cons_zero, List.getElem_cons_succ, List.setIfInBounds_toArray, List.set_cons_zero, List.set_cons_succ]
      refine wpAnyH_take (i := 2) (v := ?_) rfl (by kernel_rfl) (by kernel_rfl) (by kernel_rfl) (fun _ _ _ h => h) (Or.inl ⟨by rfl, ?_⟩) trivial ?_
      rotate_left
      · (intro w hSw; go_simp; try with_reducible rfl)
      try simp only [Act.put, List.getElem_toArray, List.getElem_cons_zero, List.getElem_cons_succ, List.setIfInBounds_toArray, List.set_cons_zero, List.set_cons_succ]
      refine wpAnyH_take (i := 3) (v := ?_) rfl (by kernel_rfl) (by kernel_rfl) (by kernel_rfl) (fun _ _ _ h => h) (Or.inl ⟨by rfl, ?_⟩) trivial ?_
      rotate_left
      · (intro w hSw; go_simp; try with_reducible rfl)
      try simp only [Act.put, List.getElem_toArray, List.getElem_cons_zero, List.getElem_cons_succ, List.setIfInBounds_toArray, List.set_cons_zero, List.set_cons_succ]
      refine wpAnyH_take (i := 4) (v := ?_) rfl (by kernel_rfl) (by kernel_rfl) (by kernel_rfl) (fun _ _ _ h => h) (Or.inl ⟨by rfl, ?_⟩) trivial ?_
      rotate_left
      · (intro w hSw; go_simp; try with_reducible rfl)
      try simp only [Act.put, List.getElem_toArray, List.getElem_cons_zero, List.getElem_cons_succ, List.setIfInBounds_toArray, List.set_cons_zero, List.set_cons_succ]
      refine wpAnyH_ready (rs := [1, 5]) (by kernel_rfl) (by simp) ?_
      refine AllReadyH.cons rfl (fun K hK => ?_) (AllReadyH.cons rfl (fun K hK => ?_) AllReadyH.nil)
      · go_simp
        refine hK.out _ _ trivial (fun _ => ?_)
        clear hK K
        try simp only [Act.put, List.getElem_toArray, List.getElem_cons_zero, List.getElem_cons_succ, List.setIfInBounds_toArray, List.set_cons_zero, List.set_cons_succ]
        refine wpAnyH_ready (rs := [5]) (by kernel_rfl) (by simp) ?_
        refine AllReadyH.cons rfl (fun K hK => ?_) AllReadyH.nil
        go_simp
        try rw [HT.out]
        refine hK.out _ _ trivial (fun _ => ?_)
        clear hK K
        try simp only [Act.put, List.getElem_toArray, List.getElem_cons_zero, List.getElem_cons_succ, List.setIfInBounds_toArray, List.set_cons_zero, List.set_cons_succ]
        refine wpAnyH_ready (rs := [6]) (by kernel_rfl) (by simp) ?_
        refine AllReadyH.cons rfl (fun K hK => ?_) AllReadyH.nil
        rw [if_pos (by rfl)]
        refine append_wp _ _ _ rfl _ _ _ rfl rfl hrun ?_
        refine hK.out _ _ trivial (fun _ => ?_)
        clear hK K
        try simp only [Act.put, List.getElem_toArray, List.getElem_cons_zero, List.getElem_cons_succ, List.setIfInBounds_toArray, List.set_cons_zero, List.set_cons_succ]
        refine wpAnyH_take (i := 7) (v := ?_) rfl (by kernel_rfl) (by kernel_rfl) (by kernel_rfl) (fun _ _ _ h => h) (Or.inl ⟨by rfl, ?_⟩) trivial ?_
        rotate_left
        · (intro w hSw; go_simp; try with_reducible rfl)
        try simp only [Act.put, List.getElem_toArray, List.getElem_cons_zero, List.getElem_cons_succ, List.setIfInBounds_toArray, List.set_cons_zero, List.set_cons_succ]
        refine wpAnyH_ready (rs := [8]) (by kernel_rfl) (by simp) ?_
        refine AllReadyH.cons rfl (fun K hK => ?_) AllReadyH.nil
        go_simp
        refine hK.out _ _ trivial (fun _ => ?_)
        clear hK K
        try simp only [Act.put, List.getElem_toArray, List.getElem_cons_zero, List.getElem_cons_succ, List.setIfInBounds_toArray, List.set_cons_zero, List.set_cons_succ]
        refine wpAnyH_done (by kernel_rfl) ?_ _
        have e0 := HM4.out.cell0
        have e1 := HR4.out.cell0
        have ef := HR4.out.frozen 0
        have z1 := (HR4.out.set0 (.slice A5 n5 c5)).cell0
        go_wp2_with fail
        refine bodyPost_ret (v := .tuple #[.agg #[.slice A5 n5 c5], .bool true]) (by simp [results, Try.results29, go_sem, z1]) rfl ⟨.slice A5 n5 c5, _, true, rfl, by rw [HM.out, ← HF.out, ← HT.out], by rw [HT.out] at HF; rw [HF.out]; exact HL.out, (HO4.out.setBelow (a := (⟨w.heap.size, 0, none⟩ : Addr)) (by show w.heap.size < BS; have := HB01.out; omega) _).mono (by have := HB01.out; omega), bst HB8.out (p := ⟨w.heap.size, 0, none⟩) (Nat.le_refl _) _⟩
      · go_simp
        try rw [HT.out]
        refine hK.out _ _ trivial (fun _ => ?_)
        clear hK K
        try simp only [Act.put, List.getElem_toArray, List.getElem_cons_zero, List.getElem_cons_succ, List.setIfInBounds_toArray, List.set_cons_zero, List.set_cons_succ]
        refine wpAnyH_ready (rs := [1]) (by kernel_rfl) (by simp) ?_
        refine AllReadyH.cons rfl (fun K hK => ?_) AllReadyH.nil
        go_simp
        refine hK.out _ _ trivial (fun _ => ?_)
        clear hK K
        try simp only [Act.put, List.getElem_toArray, List.getElem_cons_zero, List.getElem_cons_succ, List.setIfInBounds_toArray, List.set_cons_zero, List.set_cons_succ]
        refine wpAnyH_ready (rs := [6]) (by kernel_rfl) (by simp) ?_
        refine AllReadyH.cons rfl (fun K hK => ?_) AllReadyH.nil
        rw [if_pos (by rfl)]
        refine append_wp _ _ _ rfl _ _ _ rfl rfl hrun ?_
        refine hK.out _ _ trivial (fun _ => ?_)
        clear hK K
        try simp only [Act.put, List.getElem_toArray, List.getElem_cons_zero, List.getElem_cons_succ, List.setIfInBounds_toArray, List.set_cons_zero, List.set_cons_succ]
        refine wpAnyH_take (i := 7) (v := ?_) rfl (by kernel_rfl) (by kernel_rfl) (by kernel_rfl) (fun _ _ _ h => h) (Or.inl ⟨by rfl, ?_⟩) trivial ?_
        rotate_left
        · (intro w hSw; go_simp; try with_reducible rfl)
        try simp only [Act.put, List.getElem_toArray, List.getElem_cons_zero, List.getElem_cons_succ, List.setIfInBounds_toArray, List.set_cons_zero, List.set_cons_succ]
        refine wpAnyH_ready (rs := [8]) (by kernel_rfl) (by simp) ?_
        refine AllReadyH.cons rfl (fun K hK => ?_) AllReadyH.nil
        go_simp
        refine hK.out _ _ trivial (fun _ => ?_)
        clear hK K
        try simp only [Act.put, List.getElem_toArray, List.getElem_cons_zero, List.getElem_cons_succ, List.setIfInBounds_toArray, List.set_cons_zero, List.set_cons_succ]
        refine wpAnyH_done (by kernel_rfl) ?_ _
        have e0 := HM4.out.cell0
        have e1 := HR4.out.cell0
        have ef := HR4.out.frozen 0
        have z1 := (HR4.out.set0 (.slice A5 n5 c5)).cell0
        go_wp2_with fail
        refine bodyPost_ret (v := .tuple #[.agg #[.slice A5 n5 c5], .bool true]) (by simp [results, Try.results29, go_sem, z1]) rfl ⟨.slice A5 n5 c5, _, true, rfl, by rw [HM.out, ← HF.out, ← HT.out], by rw [HT.out] at HF; rw [HF.out]; exact HL.out, (HO4.out.setBelow (a := (⟨w.heap.size, 0, none⟩ : Addr)) (by show w.heap.size < BS; have := HB01.out; omega) _).mono (by have := HB01.out; omega), bst HB8.out (p := ⟨w.heap.size, 0, none⟩) (Nat.le_refl _) _⟩
end Go.Proofs.Yteepcnfpdmmnhaa
