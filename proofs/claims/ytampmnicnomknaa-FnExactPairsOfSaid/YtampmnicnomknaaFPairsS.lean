/-
  FPairsS: the pairs of a text: spec.PairsOf. Printed by wip/gen_pairss.py.
-/
import Derived.Test.YtampmnicnomknaaFXY
import Derived.Test.YtampmnicnomknaaFPure
import Derived.Deep.QuietTactic
import Derived.BigQuiet
namespace Go.Proofs.Ytampmnicnomknaa
open Go.RowKit
set_option linter.unusedVariables false
attribute [local go_sem ↓] Go.wp_at_zero Go.wp_at_succ
set_option linter.unusedSimpArgs false
def DistTo (s : ByteArray) (i : Nat) : Prop := ∀ a b (ha : a < s.size) (hb : b < s.size), a < i → b < i → s[a] = s[b] → a = b
theorem distTo_succ {s : ByteArray} {i : Nat} (hi : i < s.size) (h : DistTo s i) (h2 : ∀ k (hk : k < s.size), k < i → s[k] ≠ s[i]) : DistTo s (i + 1) := by
  intro a b ha hb hai hbi hab
  rcases Nat.lt_succ_iff_lt_or_eq.1 hai with h3 | h3 <;> rcases Nat.lt_succ_iff_lt_or_eq.1 hbi with h4 | h4
  · exact h a b ha hb h3 h4 hab
  · subst h4; exact absurd hab (h2 a ha h3)
  · subst h3; exact absurd hab.symm (h2 b hb h4)
  · omega
theorem distTo_all {s : ByteArray} (h : DistTo s s.size) : Dist s := fun i j hi hj he => h i j hi hj hi hj he
theorem step_both {s t : ByteArray} {i p q : Nat} (T : List (List Int)) (h1 : idx s (byteAt t (i - 1)) = (p : Int)) (h2 : idx s (byteAt t i) = (q : Int)) : stepT s t i T = bumpT T p q := by
  unfold stepT; rw [h1, h2, if_pos ⟨by omega, by omega⟩]; simp
theorem step_one {s t : ByteArray} {i : Nat} (T : List (List Int)) (h : ¬ (0 ≤ idx s (byteAt t (i - 1)) ∧ 0 ≤ idx s (byteAt t i))) : stepT s t i T = T := by
  unfold stepT; rw [if_neg h]
theorem pairsT_succ (s t : ByteArray) (i : Nat) (h : 1 ≤ i) : pairsT s t i = stepT s t i (pairsT s t (i - 1)) := by
  obtain ⟨k, rfl⟩ : ∃ k, i = k + 1 := ⟨i - 1, by omega⟩
  rfl
theorem l00Min_any (a b : Int) (w : World) : Calls Try.prog 11 #[.int .i64 a, .int .i64 b] w fun e w' => e = .returned (.int .i64 (min a b)) ∧ w = w' := by
  by_cases h : a < b
  · have e1 : min a b = a := by omega
    rw [e1]
    go_enter Try.func11, Try.ntmps11
    go_wp2
    go_ret
    exact ⟨rfl, rfl⟩
  · have e1 : min a b = b := by omega
    rw [e1]
    go_enter Try.func11, Try.ntmps11
    go_wp2
    go_ret
    exact ⟨rfl, rfl⟩
set_option maxHeartbeats 6400000 in
set_option maxRecDepth 10000 in
theorem spec_PairsOf_any (s : ByteArray) (hs : s.size ≤ 1048576) (t : ByteArray) (ht : t.size ≤ 1048576) (w : World) :
    Calls Try.prog 4 #[.string s, .string t] w (RXX 29 2 (M_PairsOf s t) w) := by
  obtain ⟨i0, hi0, hz, hsz, hby⟩ := info_parts info_Int64S
  obtain ⟨i1, hi1, hz1, hsz1, hby1⟩ := info_parts info_Int64SS
  have hmkA := fun (W : World) (hn : s.size ≤ 100) => run_make_rowN (P := Try.prog) 29 2 i0 _ Try.underlying29 hi0 hz .i64 .i64 s.size s.size (Nat.le_refl _) (by rw [hby]; omega) (by omega) W
  rw [hsz] at hmkA
  have HMk := Lib.hid hmkA
  clear hmkA
  go_enter Try.func4, Try.ntmps4
  go_wp2_with fail
  go_loopg [7] s.size (fun g is wr => ∃ i : Nat, i ≤ s.size ∧ g = s.size - i ∧ DistTo s i ∧ Below w.heap.size w wr ∧ is = .int .i64 i)
  case atStart => exact ⟨0, Nat.zero_le _, rfl, fun a b ha hb h => by omega, Below.refl _ _, rfl⟩
  case round =>
    obtain ⟨i, hi, hg, hdist, hbw, rfl⟩ := hrel
    have HG := Lib.hid hg
    have HD := Lib.hid hdist
    clear hg hdist
    by_cases hlt : i < s.size
    · have i1' : (0 : Int) ≤ (i : Int) := by omega
      have i2' : (i : Int) < (s.size : Int) := by omega
      go_wp2_with fail
      go_loopg [8] i (fun g2 ks wi => ∃ k : Nat, k ≤ i ∧ g2 = i - k ∧ (∀ j (hj : j < s.size), j < k → s[j] ≠ s[i]) ∧ Below w.heap.size w wi ∧ ks = .int .i64 k)
      case atStart => exact ⟨0, Nat.zero_le _, rfl, fun j hj h => by omega, hbw, rfl⟩
      case round =>
        obtain ⟨k, hki, hg2, hall, hbi, rfl⟩ := hrel
        have HG2 := Lib.hid hg2
        have HA := Lib.hid hall
        clear hg2 hall
        by_cases hlt2 : k < i
        · have hks : k < s.size := by omega
          have k1 : (0 : Int) ≤ (k : Int) := by omega
          have k2 : (k : Int) < (s.size : Int) := by omega
          by_cases hq : s[k] = s[i]
          · have te : (((s[k].toNat : Nat) : Int) == ((s[i].toNat : Nat) : Int)) = true := by rw [hq]; simp
            have HM := Lib.hid (M_pairs_no (s := s) (t := t) (fun h => by have := h.2.2.1 k i hks hlt hq; omega))
            clear hq
            go_wp2_with (go_quiet (fail))
            go_wp2_with fail
            go_ret2
            exact RXX.no HM.out.symm (bdrewN hbi _)
          · have te : (((s[k].toNat : Nat) : Int) == ((s[i].toNat : Nat) : Int)) = false := by
              rw [beq_eq_false_iff_ne]; intro hh; exact hq (UInt8.toNat_inj.1 (by omega))
            have HQ := Lib.hid hq
            clear hq
            go_wp2_with (go_quiet (fail))
            go_wp2_with fail
            go_roundg (i - (k + 1))
            case measure => rw [HG2.out]; omega
            case rel =>
              refine ⟨k + 1, by omega, rfl, fun j hj hjk => ?_, bdrewN hbi _, by go_num⟩
              rcases Nat.lt_succ_iff_lt_or_eq.1 hjk with h3 | h3
              · exact HA.out j hj h3
              · subst h3; exact HQ.out
        · have hkk : k = i := by omega
          subst hkk
          go_wp2_with fail
          go_roundg (s.size - (k + 1))
          case measure => rw [HG.out]; omega
          case rel => exact ⟨k + 1, by omega, rfl, distTo_succ hlt HD.out HA.out, hbi, by go_num⟩
    · have hil : i = s.size := by omega
      subst hil
      have hdd := distTo_all HD.out
      have HDD := Lib.hid hdd
      by_cases h1 : TextOk s 32 7
      case neg =>
        have HM := Lib.hid (M_pairs_no (s := s) (t := t) (fun h => h1 h.2.1))
        go_wp2_with (go_at_call 9; refine (RB.no (l00Text_any s hs 7 (by omega) _) h1).mono ?_; rintro e w4 ⟨rfl, rfl⟩)
        go_ret2
        exact RXX.no HM.out.symm hbw
      have h7 : (s.size : Int) ≤ 7 := h1.1
      have HC := Lib.hid (fun W => RB.yes (l00Text_any s hs 7 (by omega) W) h1)
      by_cases h2 : 2 ≤ s.size
      case neg =>
        have HM := Lib.hid (M_pairs_no (s := s) (t := t) (fun h => h2 h.1))
        clear h1
        go_wp2_with (go_at_call 9; refine (HC.out _).mono ?_; rintro e w4 ⟨rfl, rfl⟩)
        go_ret2
        exact RXX.no HM.out.symm hbw
      by_cases h4 : t.size ≤ 4000
      case neg =>
        have HM := Lib.hid (M_pairs_no (s := s) (t := t) (fun h => h4 h.2.2.2))
        clear h1
        go_wp2_with (go_at_call 9; refine (HC.out _).mono ?_; rintro e w4 ⟨rfl, rfl⟩)
        go_ret2
        exact RXX.no HM.out.symm hbw
      have HM := Lib.hid (M_pairs_yes (s := s) (t := t) ⟨h2, h1, hdd, h4⟩)
      clear h1 hdd
      obtain ⟨WO, rfl⟩ : ∃ WO, WO = wr := ⟨wr, rfl⟩
      obtain ⟨NB, hNB⟩ : ∃ NB, NB = WO.heap.size := ⟨_, rfl⟩
      have o1 : Own (WO.alloc (.cells #[] 29)) NB 29 encSl 1 (.slice (some ⟨WO.heap.size, 0, none⟩) 0 0) [] := by rw [hNB]; exact Own.lit0 (e := encSl) (s := 1) WO (fun _ => rfl) WO.heap.size 29 (Nat.le_refl _)
      have ox : OwnXX (WO.alloc (.cells #[] 29)) NB (WO.alloc (.cells #[] 29)).heap.size 29 2 (.slice (some ⟨WO.heap.size, 0, none⟩) 0 0) [] := ⟨[], rfl, o1, fun q hq => by simp at hq, List.Pairwise.nil⟩
      have hBl : Below NB WO (WO.alloc (.cells #[] 29)) := by rw [hNB]; exact bal (Below.refl _ _) _
      have HNB := Lib.hid (show w.heap.size ≤ NB ∧ NB ≤ WO.heap.size by have := hbw.size; omega)
      clear hNB o1
      go_wp2_with (go_at_call 9; refine (HC.out _).mono ?_; rintro e w4 ⟨rfl, rfl⟩)
      go_loopg [9, 10] s.size (fun g vs is wr => ∃ i : Nat, i ≤ s.size ∧ g = s.size - i ∧ OwnXX wr NB wr.heap.size 29 2 vs (List.replicate i (List.replicate s.size 0)) ∧ Below NB WO wr ∧ is = .int .i64 i)
      case atStart => exact ⟨0, Nat.zero_le _, rfl, ox, hBl, rfl⟩
      case round =>
        obtain ⟨i, hi, hg, hox, hbr, rfl⟩ := hrel
        have HG := Lib.hid hg
        clear hg ox hBl
        by_cases hlt : i < s.size
        · obtain ⟨qs, hq1, hq2, hq3, hq4⟩ := hox
          have HQL := Lib.hid (show qs.length = i by have := congrArg List.length hq1; simpa using this)
          have hmk := HMk.out wr (by omega)
          obtain ⟨x, hxd⟩ : ∃ x : Sl Int, x = ⟨some ⟨wr.heap.size, 0, none⟩, s.size, List.replicate s.size 0⟩ := ⟨_, rfl⟩
          have hex : encSl x = [.slice (some ⟨wr.heap.size, 0, none⟩) s.size s.size] := by rw [hxd]; simp [encSl]
          have hNBr : NB ≤ wr.heap.size := Nat.le_trans HNB.out.2 hbr.size
          have hm := Own.made (e := encInt) wr (fun _ => rfl) NB 2 (0 : Int) s.size hNBr (by unfold maxLen; omega)
          have hmx : Own (wr.alloc (.cells (madeCells #[.int .i64 0] s.size) 2)) NB 2 encInt 1 (vSl x) x.xs := by rw [hxd]; simpa [vSl, encInt] using hm
          have o2 := hq2.below (bal (bal (Below.refl _ _) (.cells (madeCells #[.int .i64 0] s.size) 2)) (.cells #[.slice (some ⟨wr.heap.size, 0, none⟩) s.size s.size] 29))
          have hB2 := Below.alloc (Below.alloc hbr hNBr (.cells (madeCells #[.int .i64 0] s.size) 2)) (by rw [World.size_alloc]; omega) (.cells #[.slice (some ⟨wr.heap.size, 0, none⟩) s.size s.size] 29)
          have hNB2 : NB ≤ ((wr.alloc (.cells (madeCells #[.int .i64 0] s.size) 2)).alloc (.cells #[.slice (some ⟨wr.heap.size, 0, none⟩) s.size s.size] 29)).heap.size := by rw [World.size_alloc, World.size_alloc]; omega
          have hco := cell_one_new (wr.alloc (.cells (madeCells #[.int .i64 0] s.size) 2)) (.slice (some ⟨wr.heap.size, 0, none⟩) s.size s.size) 29
          rw [World.size_alloc] at hco
          have HCO := Lib.hid hco
          clear hco
          obtain ⟨A3, c3, hv3, _, _⟩ := hq2.form
          have H3 := Lib.hid (And.intro hq1 (And.intro hq3 hq4))
          have HQ2 := Lib.hid hq2
          have HXD := Lib.hid hxd
          have HMX := Lib.hid hmx
          have HEX := Lib.hid hex
          clear hq1 hq3 hq4 hxd hmx hm hq2 hex
          subst hv3
          go_wp2_with (at_builtin; (refine app_own_at rfl _ _ 22 rfl NB 29 i1 _ 1 24 Try.underlying22 hi1 hz1 hsz1 hby1 rfl (by decide) _ qs rfl o2 ⟨_, 0, none⟩ 1 x rfl ?hn1 ?hn2 ?hn3 ?hn4 hNB2 ?hn5; (case hn1 => rw [HEX.out]; exact HCO.out); (case hn2 => rw [HEX.out]; simp [Value.oneCell']); (case hn3 => have := HQL.out; unfold maxLen; omega); (case hn4 => have := HQL.out; omega); intro v2 w4 hown2 hg4 hat4; have HO4 := Lib.hid (And.intro hown2 (And.intro hg4 hat4)); clear hown2 hg4 hat4))
          go_roundg (s.size - (i + 1))
          case measure => rw [HG.out]; omega
          case rel =>
            have hh := OwnXX.push HXD.out (by unfold maxLen; omega) H3.out.2.1 H3.out.2.2 (fun g hg => (HQ2.out.2.lt g hg).2) HMX.out HO4.out.1 HO4.out.2.1 HO4.out.2.2
            refine ⟨i + 1, by omega, rfl, ?_, hB2.trans (below_own (B := NB) o2 HO4.out.2.1 (Nat.le_refl _) hNB2), by go_num⟩
            rw [H3.out.1, ← List.replicate_succ'] at hh
            exact hh
        · have hil : i = s.size := by omega
          subst hil
          obtain ⟨A9, c9, hv9⟩ := xx_slice hox
          rw [List.length_replicate] at hv9
          subst hv9
          have hox0 : OwnXX wr NB wr.heap.size 29 2 (.slice A9 s.size c9) (pairsT s t 0) := hox
          obtain ⟨W1, rfl⟩ : ∃ W1, W1 = wr := ⟨wr, rfl⟩
          obtain ⟨HI, hHI⟩ : ∃ HI, HI = W1.heap.size := ⟨_, rfl⟩
          rw [← hHI] at hox0
          have HHI := Lib.hid (show HI ≤ W1.heap.size by omega)
          have HX0 := Lib.hid hox0
          have HBR := Lib.hid hbr
          clear hox hox0 hHI hbr
          go_wp2_with fail
          go_loopg [11] (t.size - 1) (fun g is wr => ∃ (i : Nat), 1 ≤ i ∧ (i ≤ t.size ∨ i = 1) ∧ g = t.size - i ∧ OwnXX wr NB HI 29 2 (.slice A9 s.size c9) (pairsT s t (i - 1)) ∧ Below NB WO wr ∧ W1.heap.size ≤ wr.heap.size ∧ is = .int .i64 i)
          case atStart => exact ⟨1, Nat.le_refl _, .inr rfl, rfl, HX0.out, HBR.out, Nat.le_refl _, rfl⟩
          case round =>
            obtain ⟨i, hi0', hi9, hg, hox, hbr, hsw, rfl⟩ := hrel
            have HG := Lib.hid hg
            have HSW := Lib.hid hsw
            clear hg hsw
            by_cases hlt : i < t.size
            · have j0 : (0 : Int) ≤ (i : Int) - 1 := by omega
              have j1 : (i : Int) - 1 < (t.size : Int) := by omega
              have j2 : (0 : Int) ≤ (i : Int) := by omega
              have j3 : (i : Int) < (t.size : Int) := by omega
              have jw : IntKind.i64.wrap ((i : Int) - 1) = (i : Int) - 1 := IntWalk.i64_in _ (by omega)
              have jn : ((i : Int) - 1).toNat = i - 1 := by omega
              have hlt1 : i - 1 < t.size := by omega
              obtain ⟨b1, hb1⟩ : ∃ b, t[i - 1] = b := ⟨_, rfl⟩
              obtain ⟨b2, hb2⟩ : ∃ b, t[i] = b := ⟨_, rfl⟩
              have e1 : byteAt t (i - 1) = b1 := by rw [byteAt_eq t (i - 1) hlt1, hb1]
              have e2 : byteAt t i = b2 := by rw [byteAt_eq t i hlt, hb2]
              have hstep := pairsT_succ s t i hi0'
              have hd1 := idx_bd s b1
              have hd2 := idx_bd s b2
              obtain ⟨a1, ha1⟩ : ∃ a, idx s b1 = a := ⟨_, rfl⟩
              obtain ⟨a2, ha2⟩ : ∃ a, idx s b2 = a := ⟨_, rfl⟩
              rw [ha1] at hd1
              rw [ha2] at hd2
              have L1 := Lib.hid (fun W => by have := l05Index_any s hs b1 W; rw [ha1] at this; exact this)
              have L2 := Lib.hid (fun W => by have := l05Index_any s hs b2 W; rw [ha2] at this; exact this)
              have hsq := square_pairs s t (i - 1)
              by_cases hab : 0 ≤ a1 ∧ 0 ≤ a2
              · obtain ⟨p, rfl⟩ : ∃ p : Nat, a1 = (p : Int) := ⟨a1.toNat, by omega⟩
                obtain ⟨q, rfl⟩ : ∃ q : Nat, a2 = (q : Int) := ⟨a2.toNat, by omega⟩
                rw [step_both (p := p) (q := q) _ (by rw [e1]; exact ha1) (by rw [e2]; exact ha2)] at hstep
                have hpT : p < (pairsT s t (i - 1)).length := by rw [hsq.1]; omega
                have hrow := hsq.2 _ (List.getElem_mem hpT)
                have hqT : q < (pairsT s t (i - 1))[p].length := by rw [hrow.1]; omega
                have hval := hrow.2 _ (List.getElem_mem hqT)
                rw [bump_eq hsq p q hpT hqT] at hstep
                have hoxd : OwnXX (wr.drew) NB HI 29 2 (.slice A9 s.size c9) (pairsT s t (i - 1)) := hox
                obtain ⟨G, c, gg, c', hv, x0, x1, xf, xg, xgl, hGg, hst⟩ := hoxd.cell2 p q hpT hqT
                rw [hrow.1] at x0
                simp only [Value.slice.injEq] at hv
                obtain ⟨rfl, hll, rfl⟩ := hv
                clear hll
                obtain ⟨xv, hxv⟩ : ∃ xv, (pairsT s t (i - 1))[p][q] = xv := ⟨_, rfl⟩
                rw [hxv] at x1 hval hstep
                have hst2 := hst (min 1000 (xv + 1))
                rw [← hstep] at hst2
                have HST := Lib.hid hst2
                have wv : IntKind.i64.wrap (xv + 1) = xv + 1 := IntWalk.i64_in _ (by omega)
                have p1 : (0 : Int) ≤ (p : Int) := by omega
                have p2 : (p : Int) < (s.size : Int) := by omega
                have q1 : (0 : Int) ≤ (q : Int) := by omega
                have q2 : (q : Int) < (s.size : Int) := by omega
                have HC2 := Lib.hid (fun W => l00Min_any 1000 (xv + 1) W)
                clear hst hst2 hstep hsq hpT hqT hrow hval hxv hab ha1 ha2 hd1 hd2 e1 e2 hox hoxd
                go_wp2_with (first | (go_at_call_of 10 (b1); refine (L1.out _).mono ?_; rintro e w5 ⟨rfl, rfl⟩) | (go_at_call_of 10 (b2); refine (L2.out _).mono ?_; rintro e w6 ⟨rfl, rfl⟩))
                refine wp_region_held_drew (S := fun w' => w'.cell? ⟨G, p, none⟩ = some (.slice (some ⟨gg, 0, none⟩) s.size c')) (by kernel_rfl) x0 (fun hHeld => ?_)
                try simp only [Act.put, List.getElem_toArray, List.getElem_cons_zero, List.getElem_cons_succ, List.setIfInBounds_toArray, List.set_cons_zero, List.set_cons_succ]
                refine wpAnyH_take (i := 0) (v := ?_) rfl (by kernel_rfl) (by kernel_rfl) (by kernel_rfl) (fun _ _ _ h => h) (Or.inl ⟨by rfl, ?_⟩) (by assumption) ?_
                rotate_left
                · (intro w hSw; (try dsimp only at hSw); go_simp; try with_reducible rfl)
                try simp only [Act.put, List.getElem_toArray, List.getElem_cons_zero, List.getElem_cons_succ, List.setIfInBounds_toArray, List.set_cons_zero, List.set_cons_succ]
                refine wpAnyH_take (i := 1) (v := ?_) rfl (by kernel_rfl) (by kernel_rfl) (by kernel_rfl) (fun _ _ _ h => h) (Or.inl ⟨by rfl, ?_⟩) (by assumption) ?_
                rotate_left
                · (intro w hSw; (try dsimp only at hSw); go_simp; try with_reducible rfl)
                try simp only [Act.put, List.getElem_toArray, List.getElem_cons_zero, List.getElem_cons_succ, List.setIfInBounds_toArray, List.set_cons_zero, List.set_cons_succ]
                refine wpAnyH_take (i := 2) (v := ?_) rfl (by kernel_rfl) (by kernel_rfl) (by kernel_rfl) (fun _ _ _ h => h) (Or.inl ⟨by rfl, ?_⟩) (by assumption) ?_
                rotate_left
                · (intro w hSw; (try dsimp only at hSw); go_simp; try with_reducible rfl)
                try simp only [Act.put, List.getElem_toArray, List.getElem_cons_zero, List.getElem_cons_succ, List.setIfInBounds_toArray, List.set_cons_zero, List.set_cons_succ]
                refine wpAnyH_take (i := 3) (v := ?_) rfl (by kernel_rfl) (by kernel_rfl) (by kernel_rfl) (fun _ _ _ h => h) (Or.inl ⟨by rfl, ?_⟩) (by assumption) ?_
                rotate_left
                · (intro w hSw; (try dsimp only at hSw); go_simp; try with_reducible rfl)
                try simp only [Act.put, List.getElem_toArray, List.getElem_cons_zero, List.getElem_cons_succ, List.setIfInBounds_toArray, List.set_cons_zero, List.set_cons_succ]
                refine wpAnyH_take (i := 4) (v := ?_) rfl (by kernel_rfl) (by kernel_rfl) (by kernel_rfl) (fun _ _ _ h => h) (Or.inl ⟨by rfl, ?_⟩) (by assumption) ?_
                rotate_left
                · (intro w hSw; (try dsimp only at hSw); go_simp; try with_reducible rfl)
                try simp only [Act.put, List.getElem_toArray, List.getElem_cons_zero, List.getElem_cons_succ, List.setIfInBounds_toArray, List.set_cons_zero, List.set_cons_succ]
                refine wpAnyH_take (i := 5) (v := ?_) rfl (by kernel_rfl) (by kernel_rfl) (by kernel_rfl) (fun _ _ _ h => h) (Or.inl ⟨by rfl, ?_⟩) (by assumption) ?_
                rotate_left
                · (intro w hSw; (try dsimp only at hSw); go_simp; try with_reducible rfl)
                try simp only [Act.put, List.getElem_toArray, List.getElem_cons_zero, List.getElem_cons_succ, List.setIfInBounds_toArray, List.set_cons_zero, List.set_cons_succ]
                refine wpAnyH_take (i := 6) (v := ?_) rfl (by kernel_rfl) (by kernel_rfl) (by kernel_rfl) (fun _ _ _ h => h) (Or.inl ⟨by rfl, ?_⟩) (by assumption) ?_
                rotate_left
                · (intro w hSw; (try dsimp only at hSw); go_simp; try with_reducible rfl)
                try simp only [Act.put, List.getElem_toArray, List.getElem_cons_zero, List.getElem_cons_succ, List.setIfInBounds_toArray, List.set_cons_zero, List.set_cons_succ]
                refine wpAnyH_take (i := 7) (v := ?_) rfl (by kernel_rfl) (by kernel_rfl) (by kernel_rfl) (fun _ _ _ h => h) (Or.inl ⟨by rfl, ?_⟩) (by assumption) ?_
                rotate_left
                · (intro w hSw; (try dsimp only at hSw); go_simp; try with_reducible rfl)
                try simp only [Act.put, List.getElem_toArray, List.getElem_cons_zero, List.getElem_cons_succ, List.setIfInBounds_toArray, List.set_cons_zero, List.set_cons_succ]
                refine wpAnyH_take (i := 8) (v := ?_) rfl (by kernel_rfl) (by kernel_rfl) (by kernel_rfl) (fun _ _ _ h => h) (Or.inl ⟨by rfl, ?_⟩) (by assumption) ?_
                rotate_left
                · (intro w hSw; (try dsimp only at hSw); go_simp; try with_reducible rfl)
                try simp only [Act.put, List.getElem_toArray, List.getElem_cons_zero, List.getElem_cons_succ, List.setIfInBounds_toArray, List.set_cons_zero, List.set_cons_succ]
                refine wpAnyH_take (i := 9) (v := ?_) rfl (by kernel_rfl) (by kernel_rfl) (by kernel_rfl) (fun _ _ _ h => h) (Or.inl ⟨by rfl, ?_⟩) (by assumption) ?_
                rotate_left
                · (intro w hSw; (try dsimp only at hSw); go_simp; try with_reducible rfl)
                try simp only [Act.put, List.getElem_toArray, List.getElem_cons_zero, List.getElem_cons_succ, List.setIfInBounds_toArray, List.set_cons_zero, List.set_cons_succ]
                refine wpAnyH_take (i := 10) (v := ?_) rfl (by kernel_rfl) (by kernel_rfl) (by kernel_rfl) (fun _ _ _ h => h) (Or.inl ⟨by rfl, ?_⟩) (by assumption) ?_
                rotate_left
                · (intro w hSw; (try dsimp only at hSw); go_simp; try with_reducible rfl)
                try simp only [Act.put, List.getElem_toArray, List.getElem_cons_zero, List.getElem_cons_succ, List.setIfInBounds_toArray, List.set_cons_zero, List.set_cons_succ]
                refine wpAnyH_ready (rs := [11]) (by kernel_rfl) (by simp) ?_
                refine AllReadyH.cons rfl (fun K hK => ?_) AllReadyH.nil
                go_simp
                refine hK.out _ _ x0 (fun hHeld => ?_)
                clear hK K
                try simp only [Act.put, List.getElem_toArray, List.getElem_cons_zero, List.getElem_cons_succ, List.setIfInBounds_toArray, List.set_cons_zero, List.set_cons_succ]
                refine wpAnyH_take (i := 12) (v := ?_) rfl (by kernel_rfl) (by kernel_rfl) (by kernel_rfl) (fun _ _ _ h => h) (Or.inl ⟨by rfl, ?_⟩) (by assumption) ?_
                rotate_left
                · (intro w hSw; (try dsimp only at hSw); go_simp; try with_reducible rfl)
                try simp only [Act.put, List.getElem_toArray, List.getElem_cons_zero, List.getElem_cons_succ, List.setIfInBounds_toArray, List.set_cons_zero, List.set_cons_succ]
                refine wpAnyH_ready (rs := [13]) (by kernel_rfl) (by simp) ?_
                refine AllReadyH.cons rfl (fun K hK => ?_) AllReadyH.nil
                go_simp
                go_at_call 11; refine (HC2.out _).mono ?_; rintro e w7 ⟨rfl, rfl⟩
                refine hK.out _ _ x0 (fun hHeld => ?_)
                clear hK K
                try simp only [Act.put, List.getElem_toArray, List.getElem_cons_zero, List.getElem_cons_succ, List.setIfInBounds_toArray, List.set_cons_zero, List.set_cons_succ]
                refine wpAnyH_take (i := 14) (v := ?_) rfl (by kernel_rfl) (by kernel_rfl) (by kernel_rfl) (fun _ _ _ h => h) (Or.inl ⟨by rfl, ?_⟩) (by assumption) ?_
                rotate_left
                · (intro w hSw; (try dsimp only at hSw); go_simp; try with_reducible rfl)
                try simp only [Act.put, List.getElem_toArray, List.getElem_cons_zero, List.getElem_cons_succ, List.setIfInBounds_toArray, List.set_cons_zero, List.set_cons_succ]
                refine wpAnyH_ready (rs := [15]) (by kernel_rfl) (by simp) ?_
                refine AllReadyH.cons rfl (fun K hK => ?_) AllReadyH.nil
                go_simp
                refine hK.out _ _ ((World.cell?_of_block (a := ⟨G, p, none⟩) (Below.heap_setCell wr ⟨gg, q, none⟩ (.int .i64 (min 1000 (xv + 1))) G hGg)).trans x0) (fun hHeld => ?_)
                clear hK K
                try simp only [Act.put, List.getElem_toArray, List.getElem_cons_zero, List.getElem_cons_succ, List.setIfInBounds_toArray, List.set_cons_zero, List.set_cons_succ]
                refine wpAnyH_done (by kernel_rfl) ?_ _
                go_wp2_with fail
                go_roundg (t.size - (i + 1))
                case measure => rw [HG.out]; omega
                case rel => exact ⟨i + 1, by omega, .inl (by omega), rfl, by rw [Nat.add_sub_cancel]; exact HST.out, (hbr.setCell (p := ⟨gg, q, none⟩) xg _).drew, (by have := HSW.out; first | (simp; exact this) | (simp [World.setCell, World.drew]; exact this)), by go_num⟩
              · rw [step_one _ (by rw [e1, e2, ha1, ha2]; exact hab)] at hstep
                have HST := Lib.hid hstep
                clear hstep hsq ha1 ha2 e1 e2
                by_cases ha : 0 ≤ a1
                · have t1 : decide (0 ≤ a1) = true := decide_eq_true ha
                  have t2 : decide (0 ≤ a2) = false := decide_eq_false (fun h => hab ⟨ha, h⟩)
                  clear hab ha hd1 hd2
                  go_wp2_with (first | (go_at_call_of 10 (b1); refine (L1.out _).mono ?_; rintro e w5 ⟨rfl, rfl⟩) | (go_at_call_of 10 (b2); refine (L2.out _).mono ?_; rintro e w6 ⟨rfl, rfl⟩))
                  go_roundg (t.size - (i + 1))
                  case measure => rw [HG.out]; omega
                  case rel => exact ⟨i + 1, by omega, .inl (by omega), rfl, by rw [Nat.add_sub_cancel, HST.out]; exact hox, hbr, HSW.out, by go_num⟩
                · have t1 : decide (0 ≤ a1) = false := decide_eq_false ha
                  clear hab ha hd1 hd2
                  go_wp2_with (first | (go_at_call_of 10 (b1); refine (L1.out _).mono ?_; rintro e w5 ⟨rfl, rfl⟩) | (go_at_call_of 10 (b2); refine (L2.out _).mono ?_; rintro e w6 ⟨rfl, rfl⟩))
                  go_roundg (t.size - (i + 1))
                  case measure => rw [HG.out]; omega
                  case rel => exact ⟨i + 1, by omega, .inl (by omega), rfl, by rw [Nat.add_sub_cancel, HST.out]; exact hox, hbr, HSW.out, by go_num⟩
            · have HE := Lib.hid (show pairsT s t (i - 1) = pairsT s t (t.size - 1) by congr 1; omega)
              go_wp2_with fail
              go_ret2
              exact RXX.mk HM.out.symm (by rw [← HE.out]; exact hox.mono HNB.out.1 (Nat.le_refl _)) (Nat.le_trans HHI.out HSW.out) (hbw.trans (hbr.mono HNB.out.1))
end Go.Proofs.Ytampmnicnomknaa
