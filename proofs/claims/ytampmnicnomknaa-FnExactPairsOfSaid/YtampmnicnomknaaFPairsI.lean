/-
  FPairsI: the pairs of a text: impl.PairsOf. Printed by wip/gen_pairsi.py.
-/
import Derived.Test.YtampmnicnomknaaFPairsM
import Derived.Test.YtampmnicnomknaaMaps
namespace Go.Proofs.Ytampmnicnomknaa
open Go.RowKit
set_option linter.unusedVariables false
attribute [local go_sem ↓] Go.wp_at_zero Go.wp_at_succ
set_option linter.unusedSimpArgs false
set_option maxHeartbeats 6400000 in
set_option maxRecDepth 10000 in
theorem impl_PairsOf_any (s : ByteArray) (hs : s.size ≤ 1048576) (t : ByteArray) (ht : t.size ≤ 1048576) (w : World) :
    Calls Try.prog 5 #[.string s, .string t] w (RXX 29 2 (M_PairsOf s t) w) := by
  obtain ⟨i0, hi0, hz, hsz, hby⟩ := info_parts info_Int64S
  obtain ⟨i1, hi1, hz1, hsz1, hby1⟩ := info_parts info_Int64SS
  by_cases h2 : 2 ≤ s.size
  case neg =>
    have HM := Lib.hid (M_pairs_no (s := s) (t := t) (fun h => h2 h.1))
    go_enter Try.func5, Try.ntmps5
    go_wp2_with fail
    go_ret2
    exact RXX.no HM.out.symm (Below.refl _ _)
  by_cases h1 : TextOk s 32 7
  case neg =>
    have HM := Lib.hid (M_pairs_no (s := s) (t := t) (fun h => h1 h.2.1))
    have HC := Lib.hid (fun W => RB.no (isText_any s hs 32 7 (by omega) (by omega) W) h1)
    clear h1
    go_enter Try.func5, Try.ntmps5
    go_wp2_with (go_at_call 12; refine (HC.out _).mono ?_; rintro e w4 ⟨rfl, rfl⟩)
    go_ret2
    exact RXX.no HM.out.symm (Below.refl _ _)
  have h7 : (s.size : Int) ≤ 7 := h1.1
  have HC := Lib.hid (fun W => RB.yes (isText_any s hs 32 7 (by omega) (by omega) W) h1)
  by_cases h4 : t.size ≤ 4000
  case neg =>
    have HM := Lib.hid (M_pairs_no (s := s) (t := t) (fun h => h4 h.2.2.2))
    clear h1
    go_enter Try.func5, Try.ntmps5
    go_wp2_with (go_at_call 12; refine (HC.out _).mono ?_; rintro e w4 ⟨rfl, rfl⟩)
    go_ret2
    exact RXX.no HM.out.symm (Below.refl _ _)
  have H1 := Lib.hid h1
  clear h1
  have hmk := @run_makeMap Try.prog
  have hm0 : IMap (w.alloc (.map #[] 0)) Try.prog 5 3 w.heap.size 0 (seenM s 0) := IMap.made w _ _ _
  have hB0 : Below w.heap.size w (w.alloc (.map #[] 0)) := bal (Below.refl _ _) _
  go_enter Try.func5, Try.ntmps5
  go_wp2_with (go_at_call 12; refine (HC.out _).mono ?_; rintro e w4 ⟨rfl, rfl⟩)
  go_loopg [33] s.size (fun g is wr => ∃ i : Nat, i ≤ s.size ∧ g = s.size - i ∧ DistTo s i ∧ IMap wr Try.prog 5 3 w.heap.size i (seenM s i) ∧ Below w.heap.size w wr ∧ is = .int .i64 i)
  case atStart => exact ⟨0, Nat.zero_le _, rfl, fun a b ha hb h => by omega, hm0, hB0, rfl⟩
  case round =>
    obtain ⟨i, hi, hg, hdist, hm, hbw, rfl⟩ := hrel
    have HG := Lib.hid hg
    have HD := Lib.hid hdist
    clear hg hdist hm0 hB0 hmk
    by_cases hlt : i < s.size
    · have j1 : (0 : Int) ≤ (i : Int) := by omega
      have j2 : (i : Int) < (s.size : Int) := by omega
      have hlook := hm.look (t := 33) (kl := keyL s[i]) keyU Try.underlying33 Try.underlying3 (zeroI _) trivial (keyU_at s[i])
      by_cases hd : DistTo s (i + 1)
      · rw [seenM_no hlt hd] at hlook
        simp only [Option.getD_none, Option.isSome_none] at hlook
        have HD2 := Lib.hid hd
        have HM2 := Lib.hid hm
        clear hd
        go_wp2_with (at_mapUpdate; refine wpList_update_imap _ rfl _ _ _ _ rfl _ _ keyU Try.underlying33 Try.underlying3 _ _ _ (by unfold maxLen; omega) rfl HM2.out (.int .u8 (s[i].toNat : Int)) (i : Int) (wfI (by omega)) (keyL s[i]) trivial rfl rfl (keyU_at s[i]) ?_; intro w4 hm4 hg4; have HM4 := Lib.hid hm4; have HG4 := Lib.hid hg4; clear hm4 hg4)
        go_roundg (s.size - (i + 1))
        case measure => rw [HG.out]; omega
        case rel =>
          refine ⟨i + 1, by omega, rfl, HD2.out, ?_, below_grown hbw HG4.out hbw.size (Nat.le_refl _), by go_num⟩
          have e := HM4.out
          rw [← byteAt_eq s i hlt] at e
          exact e
      · obtain ⟨j, hj⟩ := seenM_yes hlt HD.out hd
        rw [hj] at hlook
        simp only [Option.getD_some, Option.isSome_some] at hlook
        have HM := Lib.hid (M_pairs_no (s := s) (t := t) (fun h => hd (distTo_of h.2.2.1 _)))
        clear hd hj
        go_wp2_with fail
        go_ret2
        exact RXX.no HM.out.symm hbw
    · have hil : i = s.size := by omega
      subst hil
      have hdd := distTo_all HD.out
      have HM := Lib.hid (M_pairs_yes (s := s) (t := t) ⟨h2, H1.out, hdd, h4⟩)
      have HDD := Lib.hid hdd
      clear hdd
      obtain ⟨WO, rfl⟩ : ∃ WO, WO = wr := ⟨wr, rfl⟩
      have hmkO := run_make_rowN (P := Try.prog) 22 29 i1 _ Try.underlying22 hi1 hz1 .i64 .i64 s.size s.size (Nat.le_refl _) (by rw [hby1]; omega) (by omega) WO
      rw [hsz1] at hmkO
      have hmkA := fun (W : World) => run_make_rowN (P := Try.prog) 29 2 i0 _ Try.underlying29 hi0 hz .i64 .i64 s.size s.size (Nat.le_refl _) (by rw [hby]; omega) (by omega) W
      rw [hsz] at hmkA
      have HMk := Lib.hid hmkA
      have hmO := Own.made (e := encSl) WO (fun _ => rfl) WO.heap.size 29 (⟨none, 0, []⟩ : Sl Int) s.size (Nat.le_refl _) (by unfold maxLen; omega)
      have hmO2 : Own (WO.alloc (.cells (madeCells #[.slice none 0 0] s.size) 29)) WO.heap.size 29 encSl 1 (.slice (some ⟨WO.heap.size, 0, none⟩) s.size s.size) (List.replicate s.size ⟨none, 0, []⟩) := by simpa [encSl] using hmO
      have HO := Lib.hid hmO2
      have HMap := Lib.hid hm
      have hBO : Below WO.heap.size WO (WO.alloc (.cells (madeCells #[.slice none 0 0] s.size) 29)) := bal (Below.refl _ _) _
      have hsO : WO.heap.size < (WO.alloc (.cells (madeCells #[.slice none 0 0] s.size) 29)).heap.size := by simp
      have HBO := Lib.hid (And.intro hBO hsO)
      clear hmO hmO2 hmkA hm hBO hsO
      go_wp2_with fail
      go_loopg [56] s.size (fun g is wr => ∃ (k : Nat) (ys : List (Sl Int)), k ≤ s.size ∧ g = s.size - k ∧ ys.length = s.size ∧ xss (ys.take k) = List.replicate k (List.replicate s.size 0) ∧ Own wr WO.heap.size 29 encSl 1 (.slice (some ⟨WO.heap.size, 0, none⟩) s.size s.size) ys ∧
        ((∀ q ∈ ys.take k, Own wr (WO.heap.size + 1) 2 encInt 1 (vSl q) q.xs ∧ q.xs.length ≤ maxLen) ∧ (ys.take k).Pairwise (fun p q => ∀ g, (vSl p).ownBlock = some g → (vSl q).ownBlock ≠ some g)) ∧ WO.heap.size < wr.heap.size ∧ Below WO.heap.size WO wr ∧ is = .int .i64 k)
      case atStart => exact ⟨0, _, Nat.zero_le _, rfl, by simp, by simp, HO.out, ⟨fun q hq => by simp at hq, by simp⟩, HBO.out.2, HBO.out.1, rfl⟩
      case round =>
        obtain ⟨k, ys, hk, hg, hyl, htk, hown, hin, hsw, hbr, rfl⟩ := hrel
        have HG := Lib.hid hg
        have HY := Lib.hid hyl
        have HT := Lib.hid htk
        have HIn := Lib.hid hin
        clear hg hyl htk hin hmkO
        by_cases hlt : k < s.size
        · have hky : k < ys.length := by rw [HY.out]; exact hlt
          have k1 : (0 : Int) ≤ (k : Int) := by omega
          have k2 : (k : Int) < (s.size : Int) := by omega
          have hmk := HMk.out wr
          obtain ⟨x, hxd⟩ : ∃ x : Sl Int, x = ⟨some ⟨wr.heap.size, 0, none⟩, s.size, List.replicate s.size 0⟩ := ⟨_, rfl⟩
          have hxs : x.xs = List.replicate s.size 0 := by rw [hxd]
          have hxv : Value.slice x.A x.xs.length x.c = .slice (some ⟨wr.heap.size, 0, none⟩) s.size s.size := by rw [hxd]; simp
          have hm := Own.made (e := encInt) wr (fun _ => rfl) (WO.heap.size + 1) 2 (0 : Int) s.size hsw (by unfold maxLen; omega)
          have hmx : Own (wr.alloc (.cells (madeCells #[.int .i64 0] s.size) 2)) (WO.heap.size + 1) 2 encInt 1 (vSl x) x.xs := by rw [hxd]; simpa [vSl, encInt] using hm
          have ow := hown.below (bal (Below.refl _ _) (.cells (madeCells #[.int .i64 0] s.size) 2))
          have d0 : (wr.alloc (.cells (madeCells #[.int .i64 0] s.size) 2)).cell? ⟨WO.heap.size, k, none⟩ = some (encSl ys[k])[0] := by have := ow.cell (j := 0) hky rfl; simpa using this
          have z0 := ow.frozen k
          have hst := ow.store1 (f := fun q : Sl Int => .slice q.A q.xs.length q.c) hky x
          rw [hxv] at hst
          have HCm := Lib.hid (show (wr.alloc (.cells (madeCells #[.int .i64 0] s.size) 2)).setCell ⟨WO.heap.size, k, none⟩ (.slice (some ⟨wr.heap.size, 0, none⟩) s.size s.size) = (wr.setCell ⟨WO.heap.size, k, none⟩ (.slice (some ⟨wr.heap.size, 0, none⟩) s.size s.size)).alloc (.cells (madeCells #[.int .i64 0] s.size) 2) by first | exact World.setCell_alloc _ _ _ _ hsw | simp [go_sem, hsw] | go_simp)
          have HST := Lib.hid hst
          have HMX := Lib.hid hmx
          have HX := Lib.hid (And.intro hxs hxd)
          have hB2 := hbr.alloc hbr.size (.cells (madeCells #[.int .i64 0] s.size) 2)
          clear hst hmx hm hxs hxv hxd ow
          go_wp2_with fail
          go_roundg (s.size - (k + 1))
          case measure => rw [HG.out]; omega
          case rel =>
            rw [← HCm.out]
            have e1 : (ys.set k x).take (k + 1) = ys.take k ++ [x] := by
              rw [List.take_succ_eq_append_getElem (by rw [List.length_set]; exact hky), List.take_set_of_le (Nat.le_refl _), List.getElem_set_self]
            refine ⟨k + 1, ys.set k x, by omega, rfl, by rw [List.length_set]; exact HY.out, ?_, HST.out, ⟨?_, ?_⟩, by simp; omega, hB2.setCell (p := ⟨WO.heap.size, k, none⟩) (Nat.le_refl _) _, by go_num⟩
            · rw [e1, List.replicate_succ', ← HT.out]
              unfold xss
              rw [List.map_append, List.map_cons, List.map_nil, HX.out.1]
            · intro q hq
              rw [e1] at hq
              rcases List.mem_append.1 hq with h1 | h1
              · exact ⟨((HIn.out.1 q h1).1.below (bal (Below.refl _ _) (.cells (madeCells #[.int .i64 0] s.size) 2))).setBelow (Nat.lt_succ_self _) _, (HIn.out.1 q h1).2⟩
              · simp only [List.mem_cons, List.not_mem_nil, or_false] at h1
                subst h1
                exact ⟨HMX.out.setBelow (Nat.lt_succ_self _) _, by rw [HX.out.1, List.length_replicate]; unfold maxLen; omega⟩
            · rw [e1, List.pairwise_append]
              refine ⟨HIn.out.2, by simp, fun p hp q hq g hg hh => ?_⟩
              simp only [List.mem_cons, List.not_mem_nil, or_false] at hq
              subst hq
              have h1 := ((HIn.out.1 p hp).1.2.lt g hg).2
              rw [HX.out.2] at hh
              have h3 : wr.heap.size = g := by simpa [vSl, Value.ownBlock] using hh
              omega
        · have hkl : k = s.size := by omega
          subst hkl
          have hl2 := HY.out
          have ht2 := HT.out
          have hi2 := HIn.out
          rw [List.take_of_length_le (by omega)] at ht2 hi2
          have hox : OwnXX wr WO.heap.size wr.heap.size 29 2 (.slice (some ⟨WO.heap.size, 0, none⟩) s.size s.size) (pairsT s t 0) := ⟨ys, ht2, hown, fun q hq => ⟨(hi2.1 q hq).1.mono (Nat.le_succ _), (hi2.1 q hq).2, fun g hg => ⟨((hi2.1 q hq).1.2.lt g hg).2, fun hh => by have h1 := ((hi2.1 q hq).1.2.lt g hg).1; have hh2 : WO.heap.size = g := (by simpa [Value.ownBlock] using hh); omega⟩⟩, hi2.2⟩
          obtain ⟨W1, rfl⟩ : ∃ W1, W1 = wr := ⟨wr, rfl⟩
          obtain ⟨HI, hHI⟩ : ∃ HI, HI = W1.heap.size := ⟨_, rfl⟩
          rw [← hHI] at hox
          have HHI := Lib.hid (show HI ≤ W1.heap.size by omega)
          have HX0 := Lib.hid hox
          have HBR := Lib.hid hbr
          have HM0 := Lib.hid (HMap.out.kept (grown_of_below (hbr.mono (Nat.le_refl _)) none) (by simp))
          clear hox hHI hbr hown hl2 ht2 hi2
          go_wp2_with fail
          go_loopg [12] (t.size - 1) (fun g is wr => ∃ (i : Nat), 1 ≤ i ∧ (i ≤ t.size ∨ i = 1) ∧ g = t.size - i ∧ OwnXX wr WO.heap.size HI 29 2 (.slice (some ⟨WO.heap.size, 0, none⟩) s.size s.size) (pairsT s t (i - 1)) ∧ IMap wr Try.prog 5 3 w.heap.size s.size (seenM s s.size) ∧ Below WO.heap.size WO wr ∧ W1.heap.size ≤ wr.heap.size ∧ is = .int .i64 i)
          case atStart => exact ⟨1, Nat.le_refl _, .inr rfl, rfl, HX0.out, HM0.out, HBR.out, Nat.le_refl _, rfl⟩
          case round =>
            obtain ⟨i, hi0', hi9, hg, hox, hmap, hbr, hsw2, rfl⟩ := hrel
            have HG := Lib.hid hg
            have HSW := Lib.hid hsw2
            clear hg hsw2
            by_cases hlt3 : i < t.size
            · have j0 : (0 : Int) ≤ (i : Int) - 1 := by omega
              have j1 : (i : Int) - 1 < (t.size : Int) := by omega
              have j2 : (0 : Int) ≤ (i : Int) := by omega
              have j3 : (i : Int) < (t.size : Int) := by omega
              have jw : IntKind.i64.wrap ((i : Int) - 1) = (i : Int) - 1 := IntWalk.i64_in _ (by omega)
              have jn : ((i : Int) - 1).toNat = i - 1 := by omega
              have hlt1 : i - 1 < t.size := by omega
              obtain ⟨b1, hb1⟩ : ∃ b, t[i - 1] = b := ⟨_, rfl⟩
              obtain ⟨b2, hb2⟩ : ∃ b, t[i] = b := ⟨_, rfl⟩
              have e1 : byteAt t (i - 1) = b1 := by rw [byteAt_eq t (i - 1) hlt1, hb1]
              have e2 : byteAt t i = b2 := by rw [byteAt_eq t i hlt3, hb2]
              have hstep := pairsT_succ s t i hi0'
              have hsq := square_pairs s t (i - 1)
              have lk1 := hmap.look (t := 33) (kl := keyL b1) keyU Try.underlying33 Try.underlying3 (zeroI _) trivial (keyU_at b1)
              have lk2 := hmap.look (t := 33) (kl := keyL b2) keyU Try.underlying33 Try.underlying3 (zeroI _) trivial (keyU_at b2)
              have HMp := Lib.hid hmap
              clear hmap
              rcases seenM_all HDD.out b1 with ⟨x1, x2⟩ | ⟨p, hp, x1, x2⟩
              · rw [step_one _ (by rw [e1, x1]; omega)] at hstep
                rw [x2] at lk1
                simp only [Option.getD_none, Option.isSome_none] at lk1
                have HST := Lib.hid hstep
                clear hstep hsq e1 e2 x1 x2
                go_wp2_with fail
                all_goals
                  go_roundg (t.size - (i + 1))
                  case measure => rw [HG.out]; omega
                  case rel => exact ⟨i + 1, by omega, .inl (by omega), rfl, by rw [Nat.add_sub_cancel, HST.out]; exact hox, HMp.out, hbr, HSW.out, by go_num⟩
              · rw [x2] at lk1
                simp only [Option.getD_some, Option.isSome_some] at lk1
                rcases seenM_all HDD.out b2 with ⟨y1, y2⟩ | ⟨q, hq, y1, y2⟩
                · rw [step_one _ (by rw [e2, y1]; omega)] at hstep
                  rw [y2] at lk2
                  simp only [Option.getD_none, Option.isSome_none] at lk2
                  have HST := Lib.hid hstep
                  clear hstep hsq e1 e2 x1 x2 y1 y2
                  go_wp2_with fail
                  go_roundg (t.size - (i + 1))
                  case measure => rw [HG.out]; omega
                  case rel => exact ⟨i + 1, by omega, .inl (by omega), rfl, by rw [Nat.add_sub_cancel, HST.out]; exact hox, HMp.out, hbr, HSW.out, by go_num⟩
                · rw [y2] at lk2
                  simp only [Option.getD_some, Option.isSome_some] at lk2
                  rw [step_both (p := p) (q := q) _ (by rw [e1]; exact x1) (by rw [e2]; exact y1)] at hstep
                  have hpT : p < (pairsT s t (i - 1)).length := by rw [hsq.1]; omega
                  have hrow := hsq.2 _ (List.getElem_mem hpT)
                  have hqT : q < (pairsT s t (i - 1))[p].length := by rw [hrow.1]; omega
                  have hval := hrow.2 _ (List.getElem_mem hqT)
                  rw [bump_eq hsq p q hpT hqT] at hstep
                  have hoxd : OwnXX (wr.drew) WO.heap.size HI 29 2 (.slice (some ⟨WO.heap.size, 0, none⟩) s.size s.size) (pairsT s t (i - 1)) := hox
                  obtain ⟨G, c, gg, c', hv, z0, z1, xf, xg, xgl, hGg, hst⟩ := hoxd.cell2 p q hpT hqT
                  rw [hrow.1] at z0
                  simp only [Value.slice.injEq, Option.some.injEq, Addr.mk.injEq, and_true] at hv
                  obtain ⟨rfl, hll⟩ := hv
                  clear hll
                  obtain ⟨xv, hxv⟩ : ∃ xv, (pairsT s t (i - 1))[p][q] = xv := ⟨_, rfl⟩
                  rw [hxv] at z1 hval hstep
                  by_cases hmn : 1000 < xv + 1
                  · rw [show min 1000 (xv + 1) = 1000 by omega] at hstep
                    have hst2 := hst 1000
                    rw [← hstep] at hst2
                    have HST := Lib.hid hst2
                    have wv : IntKind.i64.wrap (xv + 1) = xv + 1 := IntWalk.i64_in _ (by omega)
                    have p1 : (0 : Int) ≤ (p : Int) := by omega
                    have p2 : (p : Int) < (s.size : Int) := by omega
                    have q1 : (0 : Int) ≤ (q : Int) := by omega
                    have q2 : (q : Int) < (s.size : Int) := by omega
                    clear hst hst2 hstep hsq hpT hqT hrow hval hxv e1 e2 hox hoxd x1 x2 y1 y2
                    go_wp2_with fail
                    refine wp_region_held_drew (S := fun w' => w'.cell? ⟨WO.heap.size, p, none⟩ = some (.slice (some ⟨gg, 0, none⟩) s.size c')) (by kernel_rfl) z0 (fun hHeld => ?_)
                    try simp only [Act.put, List.getElem_toArray, List.getElem_cons_zero, List.getElem_cons_succ, List.setIfInBounds_toArray, List.set_cons_zero, List.set_cons_succ]
                    refine wpAnyH_take (i := 0) (v := ?_) rfl (by kernel_rfl) (by kernel_rfl) (by kernel_rfl) (fun _ _ _ h => h) (Or.inl ⟨by rfl, ?_⟩) (by assumption) ?_
                    rotate_left
                    · (intro w hSw; (try dsimp only at hSw); go_simp; try with_reducible rfl)
                    try simp only [Act.put, List.getElem_toArray, List.getElem_cons_zero, List.getElem_cons_succ, List.setIfInBounds_toArray, List.set_cons_zero, List.set_cons_succ]
                    refine wpAnyH_take (i := 1) (v := ?_) rfl (by kernel_rfl) (by kernel_rfl) (by kernel_rfl) (fun _ _ _ h => h) (Or.inl ⟨by rfl, ?_⟩) (by assumption) ?_
                    rotate_left
                    · (intro w hSw; (try dsimp only at hSw); go_simp; try with_reducible rfl)
                    try simp only [Act.put, List.getElem_toArray, List.getElem_cons_zero, List.getElem_cons_succ, List.setIfInBounds_toArray, List.set_cons_zero, List.set_cons_succ]
                    refine wpAnyH_take (i := 2) (v := ?_) rfl (by kernel_rfl) (by kernel_rfl) (by kernel_rfl) (fun _ _ _ h => h) (Or.inl ⟨by rfl, ?_⟩) (by assumption) ?_
                    rotate_left
                    · (intro w hSw; (try dsimp only at hSw); go_simp; try with_reducible rfl)
                    try simp only [Act.put, List.getElem_toArray, List.getElem_cons_zero, List.getElem_cons_succ, List.setIfInBounds_toArray, List.set_cons_zero, List.set_cons_succ]
                    refine wpAnyH_take (i := 3) (v := ?_) rfl (by kernel_rfl) (by kernel_rfl) (by kernel_rfl) (fun _ _ _ h => h) (Or.inl ⟨by rfl, ?_⟩) (by assumption) ?_
                    rotate_left
                    · (intro w hSw; (try dsimp only at hSw); go_simp; try with_reducible rfl)
                    try simp only [Act.put, List.getElem_toArray, List.getElem_cons_zero, List.getElem_cons_succ, List.setIfInBounds_toArray, List.set_cons_zero, List.set_cons_succ]
                    refine wpAnyH_take (i := 4) (v := ?_) rfl (by kernel_rfl) (by kernel_rfl) (by kernel_rfl) (fun _ _ _ h => h) (Or.inl ⟨by rfl, ?_⟩) (by assumption) ?_
                    rotate_left
                    · (intro w hSw; (try dsimp only at hSw); go_simp; try with_reducible rfl)
                    try simp only [Act.put, List.getElem_toArray, List.getElem_cons_zero, List.getElem_cons_succ, List.setIfInBounds_toArray, List.set_cons_zero, List.set_cons_succ]
                    refine wpAnyH_take (i := 5) (v := ?_) rfl (by kernel_rfl) (by kernel_rfl) (by kernel_rfl) (fun _ _ _ h => h) (Or.inl ⟨by rfl, ?_⟩) (by assumption) ?_
                    rotate_left
                    · (intro w hSw; (try dsimp only at hSw); go_simp; try with_reducible rfl)
                    try simp only [Act.put, List.getElem_toArray, List.getElem_cons_zero, List.getElem_cons_succ, List.setIfInBounds_toArray, List.set_cons_zero, List.set_cons_succ]
                    refine wpAnyH_take (i := 6) (v := ?_) rfl (by kernel_rfl) (by kernel_rfl) (by kernel_rfl) (fun _ _ _ h => h) (Or.inl ⟨by rfl, ?_⟩) (by assumption) ?_
                    rotate_left
                    · (intro w hSw; (try dsimp only at hSw); go_simp; try with_reducible rfl)
                    try simp only [Act.put, List.getElem_toArray, List.getElem_cons_zero, List.getElem_cons_succ, List.setIfInBounds_toArray, List.set_cons_zero, List.set_cons_succ]
                    refine wpAnyH_take (i := 7) (v := ?_) rfl (by kernel_rfl) (by kernel_rfl) (by kernel_rfl) (fun _ _ _ h => h) (Or.inl ⟨by rfl, ?_⟩) (by assumption) ?_
                    rotate_left
                    · (intro w hSw; (try dsimp only at hSw); go_simp; try with_reducible rfl)
                    try simp only [Act.put, List.getElem_toArray, List.getElem_cons_zero, List.getElem_cons_succ, List.setIfInBounds_toArray, List.set_cons_zero, List.set_cons_succ]
                    refine wpAnyH_take (i := 8) (v := ?_) rfl (by kernel_rfl) (by kernel_rfl) (by kernel_rfl) (fun _ _ _ h => h) (Or.inl ⟨by rfl, ?_⟩) (by assumption) ?_
                    rotate_left
                    · (intro w hSw; (try dsimp only at hSw); go_simp; try with_reducible rfl)
                    try simp only [Act.put, List.getElem_toArray, List.getElem_cons_zero, List.getElem_cons_succ, List.setIfInBounds_toArray, List.set_cons_zero, List.set_cons_succ]
                    refine wpAnyH_take (i := 9) (v := ?_) rfl (by kernel_rfl) (by kernel_rfl) (by kernel_rfl) (fun _ _ _ h => h) (Or.inl ⟨by rfl, ?_⟩) (by assumption) ?_
                    rotate_left
                    · (intro w hSw; (try dsimp only at hSw); go_simp; try with_reducible rfl)
                    try simp only [Act.put, List.getElem_toArray, List.getElem_cons_zero, List.getElem_cons_succ, List.setIfInBounds_toArray, List.set_cons_zero, List.set_cons_succ]
                    refine wpAnyH_take (i := 10) (v := ?_) rfl (by kernel_rfl) (by kernel_rfl) (by kernel_rfl) (fun _ _ _ h => h) (Or.inl ⟨by rfl, ?_⟩) (by assumption) ?_
                    rotate_left
                    · (intro w hSw; (try dsimp only at hSw); go_simp; try with_reducible rfl)
                    try simp only [Act.put, List.getElem_toArray, List.getElem_cons_zero, List.getElem_cons_succ, List.setIfInBounds_toArray, List.set_cons_zero, List.set_cons_succ]
                    refine wpAnyH_ready (rs := [11]) (by kernel_rfl) (by simp) ?_
                    refine AllReadyH.cons rfl (fun K hK => ?_) AllReadyH.nil
                    go_simp
                    refine hK.out _ _ z0 (fun hHeld => ?_)
                    clear hK K
                    try simp only [Act.put, List.getElem_toArray, List.getElem_cons_zero, List.getElem_cons_succ, List.setIfInBounds_toArray, List.set_cons_zero, List.set_cons_succ]
                    refine wpAnyH_take (i := 12) (v := ?_) rfl (by kernel_rfl) (by kernel_rfl) (by kernel_rfl) (fun _ _ _ h => h) (Or.inl ⟨by rfl, ?_⟩) (by assumption) ?_
                    rotate_left
                    · (intro w hSw; (try dsimp only at hSw); go_simp; try with_reducible rfl)
                    try simp only [Act.put, List.getElem_toArray, List.getElem_cons_zero, List.getElem_cons_succ, List.setIfInBounds_toArray, List.set_cons_zero, List.set_cons_succ]
                    refine wpAnyH_take (i := 13) (v := ?_) rfl (by kernel_rfl) (by kernel_rfl) (by kernel_rfl) (fun _ _ _ h => h) (Or.inl ⟨by rfl, ?_⟩) (by assumption) ?_
                    rotate_left
                    · (intro w hSw; (try dsimp only at hSw); go_simp; try with_reducible rfl)
                    try simp only [Act.put, List.getElem_toArray, List.getElem_cons_zero, List.getElem_cons_succ, List.setIfInBounds_toArray, List.set_cons_zero, List.set_cons_succ]
                    refine wpAnyH_take (i := 14) (v := ?_) rfl (by kernel_rfl) (by kernel_rfl) (by kernel_rfl) (fun _ _ _ h => h) (Or.inl ⟨by rfl, ?_⟩) (by assumption) ?_
                    rotate_left
                    · (intro w hSw; (try dsimp only at hSw); go_simp; try with_reducible rfl)
                    try simp only [Act.put, List.getElem_toArray, List.getElem_cons_zero, List.getElem_cons_succ, List.setIfInBounds_toArray, List.set_cons_zero, List.set_cons_succ]
                    refine wpAnyH_ready (rs := [15]) (by kernel_rfl) (by simp) ?_
                    refine AllReadyH.cons rfl (fun K hK => ?_) AllReadyH.nil
                    go_simp
                    refine hK.out _ _ ((World.cell?_of_block (a := ⟨WO.heap.size, p, none⟩) (Below.heap_setCell wr ⟨gg, q, none⟩ (.int .i64 1000) WO.heap.size hGg)).trans z0) (fun hHeld => ?_)
                    clear hK K
                    try simp only [Act.put, List.getElem_toArray, List.getElem_cons_zero, List.getElem_cons_succ, List.setIfInBounds_toArray, List.set_cons_zero, List.set_cons_succ]
                    refine wpAnyH_done (by kernel_rfl) ?_ _
                    go_wp2_with fail
                    go_roundg (t.size - (i + 1))
                    case measure => rw [HG.out]; omega
                    case rel => exact ⟨i + 1, by omega, .inl (by omega), rfl, by rw [Nat.add_sub_cancel]; exact HST.out, (HMp.out.kept (grown_set wr gg q (.int .i64 1000)) (row := some gg) (by intro hh; injection hh with hh; have := HMap.out.lt; omega)).drew, (hbr.setCell (p := ⟨gg, q, none⟩) xg _).drew, (by have := HSW.out; first | (simp; exact this) | (simp [World.setCell, World.drew]; exact this)), by go_num⟩
                  · rw [show min 1000 (xv + 1) = (xv + 1) by omega] at hstep
                    have hmf : (1000 < xv + 1) = False := eq_false hmn
                    have hst2 := hst (xv + 1)
                    rw [← hstep] at hst2
                    have HST := Lib.hid hst2
                    have wv : IntKind.i64.wrap (xv + 1) = xv + 1 := IntWalk.i64_in _ (by omega)
                    have p1 : (0 : Int) ≤ (p : Int) := by omega
                    have p2 : (p : Int) < (s.size : Int) := by omega
                    have q1 : (0 : Int) ≤ (q : Int) := by omega
                    have q2 : (q : Int) < (s.size : Int) := by omega
                    clear hst hst2 hstep hsq hpT hqT hrow hval hxv e1 e2 hox hoxd x1 x2 y1 y2
                    go_wp2_with fail
                    refine wp_region_held_drew (S := fun w' => w'.cell? ⟨WO.heap.size, p, none⟩ = some (.slice (some ⟨gg, 0, none⟩) s.size c')) (by kernel_rfl) z0 (fun hHeld => ?_)
                    try simp only [Act.put, List.getElem_toArray, List.getElem_cons_zero, List.getElem_cons_succ, List.setIfInBounds_toArray, List.set_cons_zero, List.set_cons_succ]
                    refine wpAnyH_take (i := 0) (v := ?_) rfl (by kernel_rfl) (by kernel_rfl) (by kernel_rfl) (fun _ _ _ h => h) (Or.inl ⟨by rfl, ?_⟩) (by assumption) ?_
                    rotate_left
                    · (intro w hSw; (try dsimp only at hSw); go_simp; try with_reducible rfl)
                    try simp only [Act.put, List.getElem_toArray, List.getElem_cons_zero, List.getElem_cons_succ, List.setIfInBounds_toArray, List.set_cons_zero, List.set_cons_succ]
                    refine wpAnyH_take (i := 1) (v := ?_) rfl (by kernel_rfl) (by kernel_rfl) (by kernel_rfl) (fun _ _ _ h => h) (Or.inl ⟨by rfl, ?_⟩) (by assumption) ?_
                    rotate_left
                    · (intro w hSw; (try dsimp only at hSw); go_simp; try with_reducible rfl)
                    try simp only [Act.put, List.getElem_toArray, List.getElem_cons_zero, List.getElem_cons_succ, List.setIfInBounds_toArray, List.set_cons_zero, List.set_cons_succ]
                    refine wpAnyH_take (i := 2) (v := ?_) rfl (by kernel_rfl) (by kernel_rfl) (by kernel_rfl) (fun _ _ _ h => h) (Or.inl ⟨by rfl, ?_⟩) (by assumption) ?_
                    rotate_left
                    · (intro w hSw; (try dsimp only at hSw); go_simp; try with_reducible rfl)
                    try simp only [Act.put, List.getElem_toArray, List.getElem_cons_zero, List.getElem_cons_succ, List.setIfInBounds_toArray, List.set_cons_zero, List.set_cons_succ]
                    refine wpAnyH_take (i := 3) (v := ?_) rfl (by kernel_rfl) (by kernel_rfl) (by kernel_rfl) (fun _ _ _ h => h) (Or.inl ⟨by rfl, ?_⟩) (by assumption) ?_
                    rotate_left
                    · (intro w hSw; (try dsimp only at hSw); go_simp; try with_reducible rfl)
                    try simp only [Act.put, List.getElem_toArray, List.getElem_cons_zero, List.getElem_cons_succ, List.setIfInBounds_toArray, List.set_cons_zero, List.set_cons_succ]
                    refine wpAnyH_take (i := 4) (v := ?_) rfl (by kernel_rfl) (by kernel_rfl) (by kernel_rfl) (fun _ _ _ h => h) (Or.inl ⟨by rfl, ?_⟩) (by assumption) ?_
                    rotate_left
                    · (intro w hSw; (try dsimp only at hSw); go_simp; try with_reducible rfl)
                    try simp only [Act.put, List.getElem_toArray, List.getElem_cons_zero, List.getElem_cons_succ, List.setIfInBounds_toArray, List.set_cons_zero, List.set_cons_succ]
                    refine wpAnyH_take (i := 5) (v := ?_) rfl (by kernel_rfl) (by kernel_rfl) (by kernel_rfl) (fun _ _ _ h => h) (Or.inl ⟨by rfl, ?_⟩) (by assumption) ?_
                    rotate_left
                    · (intro w hSw; (try dsimp only at hSw); go_simp; try with_reducible rfl)
                    try simp only [Act.put, List.getElem_toArray, List.getElem_cons_zero, List.getElem_cons_succ, List.setIfInBounds_toArray, List.set_cons_zero, List.set_cons_succ]
                    refine wpAnyH_take (i := 6) (v := ?_) rfl (by kernel_rfl) (by kernel_rfl) (by kernel_rfl) (fun _ _ _ h => h) (Or.inl ⟨by rfl, ?_⟩) (by assumption) ?_
                    rotate_left
                    · (intro w hSw; (try dsimp only at hSw); go_simp; try with_reducible rfl)
                    try simp only [Act.put, List.getElem_toArray, List.getElem_cons_zero, List.getElem_cons_succ, List.setIfInBounds_toArray, List.set_cons_zero, List.set_cons_succ]
                    refine wpAnyH_take (i := 7) (v := ?_) rfl (by kernel_rfl) (by kernel_rfl) (by kernel_rfl) (fun _ _ _ h => h) (Or.inl ⟨by rfl, ?_⟩) (by assumption) ?_
                    rotate_left
                    · (intro w hSw; (try dsimp only at hSw); go_simp; try with_reducible rfl)
                    try simp only [Act.put, List.getElem_toArray, List.getElem_cons_zero, List.getElem_cons_succ, List.setIfInBounds_toArray, List.set_cons_zero, List.set_cons_succ]
                    refine wpAnyH_take (i := 8) (v := ?_) rfl (by kernel_rfl) (by kernel_rfl) (by kernel_rfl) (fun _ _ _ h => h) (Or.inl ⟨by rfl, ?_⟩) (by assumption) ?_
                    rotate_left
                    · (intro w hSw; (try dsimp only at hSw); go_simp; try with_reducible rfl)
                    try simp only [Act.put, List.getElem_toArray, List.getElem_cons_zero, List.getElem_cons_succ, List.setIfInBounds_toArray, List.set_cons_zero, List.set_cons_succ]
                    refine wpAnyH_take (i := 9) (v := ?_) rfl (by kernel_rfl) (by kernel_rfl) (by kernel_rfl) (fun _ _ _ h => h) (Or.inl ⟨by rfl, ?_⟩) (by assumption) ?_
                    rotate_left
                    · (intro w hSw; (try dsimp only at hSw); go_simp; try with_reducible rfl)
                    try simp only [Act.put, List.getElem_toArray, List.getElem_cons_zero, List.getElem_cons_succ, List.setIfInBounds_toArray, List.set_cons_zero, List.set_cons_succ]
                    refine wpAnyH_take (i := 10) (v := ?_) rfl (by kernel_rfl) (by kernel_rfl) (by kernel_rfl) (fun _ _ _ h => h) (Or.inl ⟨by rfl, ?_⟩) (by assumption) ?_
                    rotate_left
                    · (intro w hSw; (try dsimp only at hSw); go_simp; try with_reducible rfl)
                    try simp only [Act.put, List.getElem_toArray, List.getElem_cons_zero, List.getElem_cons_succ, List.setIfInBounds_toArray, List.set_cons_zero, List.set_cons_succ]
                    refine wpAnyH_ready (rs := [11]) (by kernel_rfl) (by simp) ?_
                    refine AllReadyH.cons rfl (fun K hK => ?_) AllReadyH.nil
                    go_simp
                    refine hK.out _ _ z0 (fun hHeld => ?_)
                    clear hK K
                    try simp only [Act.put, List.getElem_toArray, List.getElem_cons_zero, List.getElem_cons_succ, List.setIfInBounds_toArray, List.set_cons_zero, List.set_cons_succ]
                    refine wpAnyH_take (i := 12) (v := ?_) rfl (by kernel_rfl) (by kernel_rfl) (by kernel_rfl) (fun _ _ _ h => h) (Or.inl ⟨by rfl, ?_⟩) (by assumption) ?_
                    rotate_left
                    · (intro w hSw; (try dsimp only at hSw); go_simp; try with_reducible rfl)
                    try simp only [Act.put, List.getElem_toArray, List.getElem_cons_zero, List.getElem_cons_succ, List.setIfInBounds_toArray, List.set_cons_zero, List.set_cons_succ]
                    refine wpAnyH_take (i := 13) (v := ?_) rfl (by kernel_rfl) (by kernel_rfl) (by kernel_rfl) (fun _ _ _ h => h) (Or.inl ⟨by rfl, ?_⟩) (by assumption) ?_
                    rotate_left
                    · (intro w hSw; (try dsimp only at hSw); go_simp; try with_reducible rfl)
                    try simp only [Act.put, List.getElem_toArray, List.getElem_cons_zero, List.getElem_cons_succ, List.setIfInBounds_toArray, List.set_cons_zero, List.set_cons_succ]
                    refine wpAnyH_take (i := 14) (v := ?_) rfl (by kernel_rfl) (by kernel_rfl) (by kernel_rfl) (fun _ _ _ h => h) (Or.inl ⟨by rfl, ?_⟩) (by assumption) ?_
                    rotate_left
                    · (intro w hSw; (try dsimp only at hSw); go_simp; try with_reducible rfl)
                    try simp only [Act.put, List.getElem_toArray, List.getElem_cons_zero, List.getElem_cons_succ, List.setIfInBounds_toArray, List.set_cons_zero, List.set_cons_succ]
                    refine wpAnyH_ready (rs := [15]) (by kernel_rfl) (by simp) ?_
                    refine AllReadyH.cons rfl (fun K hK => ?_) AllReadyH.nil
                    go_simp
                    refine hK.out _ _ ((World.cell?_of_block (a := ⟨WO.heap.size, p, none⟩) (Below.heap_setCell wr ⟨gg, q, none⟩ (.int .i64 (xv + 1)) WO.heap.size hGg)).trans z0) (fun hHeld => ?_)
                    clear hK K
                    try simp only [Act.put, List.getElem_toArray, List.getElem_cons_zero, List.getElem_cons_succ, List.setIfInBounds_toArray, List.set_cons_zero, List.set_cons_succ]
                    refine wpAnyH_done (by kernel_rfl) ?_ _
                    go_wp2_with fail
                    go_roundg (t.size - (i + 1))
                    case measure => rw [HG.out]; omega
                    case rel => exact ⟨i + 1, by omega, .inl (by omega), rfl, by rw [Nat.add_sub_cancel]; exact HST.out, (HMp.out.kept (grown_set wr gg q (.int .i64 (xv + 1))) (row := some gg) (by intro hh; injection hh with hh; have := HMap.out.lt; omega)).drew, (hbr.setCell (p := ⟨gg, q, none⟩) xg _).drew, (by have := HSW.out; first | (simp; exact this) | (simp [World.setCell, World.drew]; exact this)), by go_num⟩
            · have HE := Lib.hid (show pairsT s t (i - 1) = pairsT s t (t.size - 1) by congr 1; omega)
              go_wp2_with fail
              go_ret2
              exact RXX.mk HM.out.symm (by rw [← HE.out]; exact hox.mono hbw.size (Nat.le_refl _)) (Nat.le_trans HHI.out HSW.out) (hbw.trans (hbr.mono hbw.size))
end Go.Proofs.Ytampmnicnomknaa
