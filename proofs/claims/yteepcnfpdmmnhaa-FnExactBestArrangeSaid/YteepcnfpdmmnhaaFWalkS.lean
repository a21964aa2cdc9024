/-
  FWalkS: all arrangements, one letter after another: spec (*l05W).walk.
-/
import Derived.Test.YteepcnfpdmmnhaaFPermC
import Derived.Test.YteepcnfpdmmnhaaBlks
import Derived.Deep.QuietTactic
import Derived.Deep.RegionHeld3
namespace Go.Proofs.Yteepcnfpdmmnhaa
open Go.RowKit
set_option linter.unusedVariables false
attribute [local go_sem ↓] Go.wp_at_zero Go.wp_at_succ
set_option linter.unusedSimpArgs false
theorem own_takeI {w : World} {base n cap g : Nat} {E : TypeId} {xs : List Int} (h : Own w base E encInt 1 (.slice (some ⟨g, 0, none⟩) n cap) xs) (k : Nat) (hk : k ≤ xs.length) : Own w base E encInt 1 (.slice (some ⟨g, 0, none⟩) k cap) (xs.take k) := by
  have hl := h.len
  rcases h.2.2 with ⟨hv, _⟩ | ⟨g', cap', cur, hv, hb, hh, hnc, hcm, hcs, htk⟩
  · simp at hv
  · simp only [Value.slice.injEq, Option.some.injEq, Addr.mk.injEq, and_true] at hv
    obtain ⟨rfl, h1, rfl⟩ := hv
    refine ⟨h.1, by rw [flat_ints]; simp, .inr ⟨g, cap, cur, ?_, hb, hh, ?_, hcm, hcs, ?_⟩⟩
    · rw [List.length_take]; congr 1; omega
    · rw [List.length_take]; omega
    · rw [List.length_take, flat_ints, List.map_take, ← flat_ints, ← htk, List.take_take]
      congr 1
      omega
theorem mem_toI (q : List Nat) (p : Nat) : (p : Int) ∈ toI q ↔ q.contains p = true := by
  unfold toI
  rw [List.mem_map, List.contains_iff_mem]
  constructor
  · rintro ⟨n, hn, he⟩
    have : n = p := by omega
    exact this ▸ hn
  · exact fun h => ⟨p, h, rfl⟩
theorem toI_atW (q : List Nat) (k : Nat) (h : k < q.length) : (toI q)[k]'(by rw [toI_len]; exact h) = ((q.getD k 0 : Nat) : Int) := by
  unfold toI
  rw [List.getD_eq_getElem?_getD, List.getElem?_eq_getElem h]; simp
theorem fold_bd {C : List Nat → Int} {U : Int} : ∀ (L : List (List Nat)) (st : List Nat × Int), (∀ q ∈ L, 0 ≤ C q ∧ C q ≤ U) → -1 ≤ st.2 ∧ st.2 ≤ U → -1 ≤ (L.foldl (updP C) st).2 ∧ (L.foldl (updP C) st).2 ≤ U
  | [], st, _, h => h
  | q :: L, st, hq, h => by
    rw [List.foldl_cons]
    refine fold_bd L _ (fun r hr => hq r (List.mem_cons_of_mem _ hr)) ?_
    unfold updP
    split
    · have := hq q (List.mem_cons_self ..)
      show -1 ≤ C q ∧ C q ≤ U
      omega
    · exact h
theorem walkG_bd (x : TBasket) (hb : BasketOk x) (xs : List (List Int)) (h : PairsOk xs) (G : Nat) (now : List Nat) (st : List Nat × Int) (hn : now.length + G = xs.length) (hp : ∀ p ∈ now, p < xs.length) (hs : -1 ≤ st.2 ∧ st.2 ≤ 9800000) :
    -1 ≤ (walkG (costD x xs) xs.length G now st).2 ∧ (walkG (costD x xs) xs.length G now st).2 ≤ 9800000 := by
  rw [walkG_eq (costD_mono x hb xs h)]
  refine fold_bd _ _ (fun q hq => costD_bd x hb xs h q ?_) hs
  have h1 := (permsG_all xs.length G now q hq hp).1
  have := h.1.2
  omega
theorem apart_orW {a b : Option Nat} (h : ∀ g, a = some g → b ≠ some g) : b = none ∨ b ≠ a := by
  cases ha : a with
  | none => cases hb : b with
    | none => exact .inl rfl
    | some g => exact .inr (by simp)
  | some g => exact .inr (h g ha)
theorem walk_apart {w : World} {base : Nat} {E : TypeId} {vn v2 vb : Value} {ys : List Int} (h : ∀ g, vn.ownBlock = some g → vb.ownBlock ≠ some g) (hb : Own w base E encInt 1 vb ys) (hat : v2.ownBlock = vn.ownBlock ∨ v2.ownBlock = some w.heap.size) : ∀ g, v2.ownBlock = some g → vb.ownBlock ≠ some g := by
  intro g hg hg2
  rcases hat with h1 | h1
  · exact h g (by rw [← h1]; exact hg) hg2
  · rw [h1] at hg
    injection hg with hg
    have := (hb.2.lt g hg2).2
    omega
/-- The walker lies in block b; what it has is told. -/
def WalkAt (W0 w : World) (b base : Nat) (x : TBasket) (A : Option Addr) (c : Nat) (xs : List (List Int)) (now : List Nat) (st : List Nat × Int) : Prop :=
  ∃ vn vb, At9 w b 154 (.int .i64 x.1) (.int .i64 x.2.1) (.int .i64 x.2.2.1) (.int .i64 x.2.2.2.1) (.int .i64 x.2.2.2.2) (.slice A xs.length c) vn vb (.int .i64 st.2) ∧ Own w base 2 encInt 1 vn (toI now) ∧ Own w base 2 encInt 1 vb (toI st.1) ∧ Apart vn b ∧ Apart vb b ∧ (∀ g, vn.ownBlock = some g → vb.ownBlock ≠ some g) ∧ Below W0.heap.size W0 w ∧ base ≤ w.heap.size
def stepF (x : TBasket) (xs : List (List Int)) (G : Nat) (now : List Nat) (st : List Nat × Int) (p : Nat) : List Nat × Int := if now.contains p then st else walkG (costD x xs) xs.length G (now ++ [p]) st
theorem walkG_more (x : TBasket) (xs : List (List Int)) (G : Nat) (now : List Nat) (st : List Nat × Int) (h : ¬ (0 ≤ st.2 ∧ st.2 ≤ costD x xs now)) : walkG (costD x xs) xs.length (G + 1) now st = (List.range xs.length).foldl (stepF x xs G now) st := by
  conv => lhs; unfold walkG
  rw [if_neg h]; rfl
theorem fold_range (f : List Nat × Int → Nat → List Nat × Int) (st : List Nat × Int) (p : Nat) : (List.range (p + 1)).foldl f st = f ((List.range p).foldl f st) p := by
  rw [List.range_succ, List.foldl_append]; rfl
set_option maxHeartbeats 12800000 in
set_option maxRecDepth 10000 in
theorem walk_any (x : TBasket) (hb : BasketOk x) (A : Option Addr) (c : Nat) (xs : List (List Int)) (h2 : PairsOk xs) (W0 : World) (rx : RowXX W0 A xs) (b base : Nat) (hB1 : W0.heap.size ≤ b) (hB2 : W0.heap.size ≤ base) :
    ∀ (G : Nat) (now : List Nat) (st : List Nat × Int) (w : World), now.length + G = xs.length → (∀ p ∈ now, p < xs.length) → -1 ≤ st.2 ∧ st.2 ≤ 9800000 → WalkAt W0 w b base x A c xs now st →
      Calls Try.prog 107 #[.pointer (some ⟨b, 0, none⟩), .int .i64 (costD x xs now)] w fun e w' => e = .returned (.tuple #[]) ∧ WalkAt W0 w' b base x A c xs now (walkG (costD x xs) xs.length G now st) := by
  obtain ⟨i0, hi0, hz, hsz, hby⟩ := info_parts info_Int64S
  have hn7 : xs.length ≤ 7 := by have := h2.1.2; omega
  have hn2 : 2 ≤ xs.length := by have := h2.1.1; omega
  intro G
  induction G with
  | zero =>
    intro now st w hnl hnp hst hW
    obtain ⟨vn, vb, hm, hon, hob, han, hab, hnb, hbw, hbs⟩ := hW
    obtain ⟨sl, sv⟩ := st
    dsimp only at hst hm hob
    have hcb := costD_bd x hb xs h2 now (by omega)
    obtain ⟨C, hC⟩ : ∃ C, costD x xs now = C := ⟨_, rfl⟩
    have hnl' : now.length = xs.length := by omega
    obtain ⟨An, cn, hvn, rn, _⟩ := hon.form
    rw [toI_len, hnl'] at hvn
    subst hvn
    obtain ⟨Ab, nb, cb, rfl⟩ := own_slice hob
    have hC0 := hcb.1
    have hC9 := hcb.2
    rw [hC] at hC0 hC9
    by_cases h : 0 ≤ sv ∧ sv ≤ C
    · have HW := Lib.hid (show walkG (costD x xs) xs.length 0 now (sl, sv) = (sl, sv) by unfold walkG; rw [hC, if_pos h])
      obtain ⟨h1, h3⟩ := h
      have t1 : decide (0 ≤ sv) = true := decide_eq_true h1
      have t2 : decide (sv ≤ C) = true := decide_eq_true h3
      have HC := Lib.hid hC
      have Hm := Lib.hid hm
      have d0 := hm.cell0
      have d1 := hm.cell1
      have d2 := hm.cell2
      have d3 := hm.cell3
      have d4 := hm.cell4
      have d5 := hm.cell5
      have d6 := hm.cell6
      have d7 := hm.cell7
      have d8 := hm.cell8
      have hbl := hm.lt
      rw [hC]
      clear hC hm hcb hnl' hnl
      go_enter Try.func107, Try.ntmps107
      go_wp2_with fail
      refine bodyPost_ret (v := .tuple #[]) (by simp [results, Try.results107, go_sem]) rfl ⟨rfl, ?_⟩
      rw [HW.out]
      exact ⟨_, _, Hm.out, hon, hob, han, hab, hnb, hbw, hbs⟩
    · have HW := Lib.hid (show walkG (costD x xs) xs.length 0 now (sl, sv) = (now, C) by unfold walkG; rw [hC, if_neg h])
      have hOwn := fun W r => l00Own_any An cn (toI now) (by rw [toI_len]; omega) (by rw [toI_len]; omega) W r
      rw [toI_len, hnl'] at hOwn
      have HOwn := Lib.hid hOwn
      have HC := Lib.hid hC
      have Hm := Lib.hid hm
      have d0 := hm.cell0
      have d1 := hm.cell1
      have d2 := hm.cell2
      have d3 := hm.cell3
      have d4 := hm.cell4
      have d5 := hm.cell5
      have d6 := hm.cell6
      have d7 := hm.cell7
      have d8 := hm.cell8
      have hbl := hm.lt
      have f7 := hm.frozen 7
      rw [hC]
      have way : (decide (0 ≤ sv) = false) ∨ (decide (0 ≤ sv) = true ∧ decide (sv ≤ C) = false) := by
        by_cases hz0 : 0 ≤ sv
        · exact .inr ⟨decide_eq_true hz0, decide_eq_false (fun q => h ⟨hz0, q⟩)⟩
        · exact .inl (decide_eq_false hz0)
      clear hC hm hcb h hOwn hnl' hnl
      have main : ∀ (e1 : World → World → Prop), True := fun _ => trivial
      clear main
      rcases way with t1 | ⟨t1, t2⟩
      all_goals
        go_enter Try.func107, Try.ntmps107
        go_wp2_with (go_at_call 137; refine (HOwn.out _ rn).mono ?_; rintro e w5 ⟨v5, rfl, ho5, hb5⟩; obtain ⟨A5, n5, c5, rfl⟩ := own_slice ho5; have Hm5 := Lib.hid (Hm.out.below hb5); have q7 := Hm5.out.cell7; have qf := Hm5.out.frozen 7; have q8 := (Hm5.out.set7 (.slice A5 n5 c5)).cell8; have qf8 := (Hm5.out.set7 (.slice A5 n5 c5)).frozen 8)
        refine bodyPost_ret (v := .tuple #[]) (by simp [results, Try.results107, go_sem]) rfl ⟨rfl, ?_⟩
        rw [HW.out]
        have a5 : Apart (.slice A5 n5 c5) b := fun g hg he => by have := (ho5.2.lt g hg).1; have := Hm.out.lt; omega
        refine ⟨_, _, (Hm5.out.set7 _).set8 _, ((hon.below hb5).kept (grown_cs _ b 7 _) han.or).kept (grown_cs _ b 8 _) han.or, ((ho5.mono hbs).kept (grown_cs _ b 7 _) a5.or).kept (grown_cs _ b 8 _) a5.or, han, a5, fun g hg hg2 => ?_, bst (bst (hbw.trans (hb5.mono hbw.size)) (p := ⟨b, 7, none⟩) hB1 _) (p := ⟨b, 8, none⟩) hB1 _, ?_⟩
        · have h8 := (ho5.2.lt g hg2).1
          have h9 := (hon.2.lt g hg).2
          omega
        · have := hb5.size
          show base ≤ ((w5.setCell _ _).setCell _ _).heap.size
          simp [World.setCell]
          omega
  | succ G ih =>
    intro now st w hnl hnp hst hW
    obtain ⟨vn, vb, hm, hon, hob, han, hab, hnb, hbw, hbs⟩ := hW
    obtain ⟨sl, sv⟩ := st
    dsimp only at hst hm hob
    have hcb := costD_bd x hb xs h2 now (by omega)
    obtain ⟨C, hC⟩ : ∃ C, costD x xs now = C := ⟨_, rfl⟩
    obtain ⟨n, hnn⟩ : ∃ n, now.length = n := ⟨_, rfl⟩
    have hnx : n < xs.length := by omega
    have hnI : ((n : Int) == (xs.length : Int)) = false := by rw [beq_eq_false_iff_ne]; omega
    have hC0 := hcb.1
    have hC9 := hcb.2
    rw [hC] at hC0 hC9
    by_cases h : 0 ≤ sv ∧ sv ≤ C
    · have HW := Lib.hid (show walkG (costD x xs) xs.length (G + 1) now (sl, sv) = (sl, sv) by unfold walkG; rw [hC, if_pos h])
      obtain ⟨h1, h3⟩ := h
      have t1 : decide (0 ≤ sv) = true := decide_eq_true h1
      have t2 : decide (sv ≤ C) = true := decide_eq_true h3
      have Hm := Lib.hid hm
      have d0 := hm.cell0
      have d1 := hm.cell1
      have d2 := hm.cell2
      have d3 := hm.cell3
      have d4 := hm.cell4
      have d5 := hm.cell5
      have d6 := hm.cell6
      have d7 := hm.cell7
      have d8 := hm.cell8
      have hbl := hm.lt
      rw [hC]
      clear hC hm hcb ih
      go_enter Try.func107, Try.ntmps107
      go_wp2_with fail
      refine bodyPost_ret (v := .tuple #[]) (by simp [results, Try.results107, go_sem]) rfl ⟨rfl, ?_⟩
      rw [HW.out]
      exact ⟨_, _, Hm.out, hon, hob, han, hab, hnb, hbw, hbs⟩
    · have HW := Lib.hid (walkG_more x xs G now (sl, sv) (by rw [hC]; exact h))
      have HIH := Lib.hid ih
      have HC := Lib.hid hC
      have HNP := Lib.hid hnp
      have HSt := Lib.hid hst
      have HNN := Lib.hid hnn
      obtain ⟨An, cn, hvn, _, _⟩ := hon.form
      rw [toI_len, hnn] at hvn
      have hm0 := hm
      rw [hvn] at hm0
      have d0 := hm0.cell0
      have d1 := hm0.cell1
      have d2 := hm0.cell2
      have d3 := hm0.cell3
      have d4 := hm0.cell4
      have d5 := hm0.cell5
      have d6 := hm0.cell6
      have d7 := hm0.cell7
      have d8 := hm0.cell8
      have hbl := hm0.lt
      rw [hC]
      have H0 := Lib.hid (show WalkAt W0 w b base x A c xs now (sl, sv) from ⟨vn, vb, hm, hon, hob, han, hab, hnb, hbw, hbs⟩)
      have way : (decide (0 ≤ sv) = false) ∨ (decide (0 ≤ sv) = true ∧ decide (sv ≤ C) = false) := by
        by_cases hz0 : 0 ≤ sv
        · exact .inr ⟨decide_eq_true hz0, decide_eq_false (fun q => h ⟨hz0, q⟩)⟩
        · exact .inl (decide_eq_false hz0)
      clear hC hm hm0 hcb h hon hob han hab hnb hbw hbs ih hnp hst hvn
      have htop : ∀ (p : Nat), -1 ≤ ((List.range p).foldl (stepF x xs G now) (sl, sv)).2 ∧ ((List.range p).foldl (stepF x xs G now) (sl, sv)).2 ≤ 9800000 ∨ xs.length < p := by
        intro p
        induction p with
        | zero => exact .inl HSt.out
        | succ p ihp =>
          rcases ihp with ihp | ihp
          · by_cases hpx : p < xs.length
            · refine .inl ?_
              rw [fold_range]
              unfold stepF
              split
              · exact ihp
              · refine walkG_bd x hb xs h2 G (now ++ [p]) _ (by rw [List.length_append]; simp; omega) (fun r hr => ?_) ihp
                rcases List.mem_append.1 hr with hr | hr
                · exact HNP.out r hr
                · simp only [List.mem_singleton] at hr; omega
            · exact .inr (by omega)
          · exact .inr (by omega)
      have HTop := Lib.hid htop
      clear htop
      rcases way with t1 | ⟨t1, t2⟩
      all_goals
        go_enter Try.func107, Try.ntmps107
        go_wp2_with fail
        go_loopg [5] xs.length (fun g ps wr => ∃ p : Nat, p ≤ xs.length ∧ g = xs.length - p ∧ WalkAt W0 wr b base x A c xs now ((List.range p).foldl (stepF x xs G now) (sl, sv)) ∧ ps = .int .i64 p)
        case atStart => exact ⟨0, Nat.zero_le _, rfl, H0.out, rfl⟩
        case round =>
          obtain ⟨p, hpx, hg, hW, rfl⟩ := hrel
          obtain ⟨WO, rfl⟩ : ∃ WO, WO = wr := ⟨wr, rfl⟩
          have HG := Lib.hid hg
          have hfr := fold_range (stepF x xs G now) (sl, sv) p
          have htp := HTop.out p
          obtain ⟨S, hS⟩ : ∃ S, (List.range p).foldl (stepF x xs G now) (sl, sv) = S := ⟨_, rfl⟩
          rw [hS] at hW hfr htp
          have HS := Lib.hid hS
          have HWk := Lib.hid hW
          obtain ⟨vn, vb, hm, hon, hob, han, hab, hnb, hbw, hbs⟩ := hW
          clear hg H0 d0 d1 d2 d3 d4 d5 d6 d7 d8 hbl hS
          obtain ⟨s1, s2⟩ := S
          dsimp only at hm hob htp
          obtain ⟨An, cn, hvn, rn, _⟩ := hon.form
          rw [toI_len, HNN.out] at hvn
          subst hvn
          obtain ⟨Ab, nb, cb, rfl⟩ := own_slice hob
          have d0 := hm.cell0
          have d1 := hm.cell1
          have d2 := hm.cell2
          have d3 := hm.cell3
          have d4 := hm.cell4
          have d5 := hm.cell5
          have d6 := hm.cell6
          have d7 := hm.cell7
          have d8 := hm.cell8
          have hbl := hm.lt
          by_cases hlt : p < xs.length
          · have hts : -1 ≤ s2 ∧ s2 ≤ 9800000 := by
              rcases htp with htp | htp
              · exact htp
              · omega
            have HTs := Lib.hid hts
            have hasC := fun W (r : Row W An encInt 1 (toI now)) => l00Has_any An cn n (toI now) (by rw [toI_len, HNN.out]) (by rw [toI_len, HNN.out]; omega) (p : Int) W r
            have HHas := Lib.hid hasC
            have Hm := Lib.hid hm
            have p1 : (0 : Int) ≤ (p : Int) := by omega
            have p2 : (p : Int) < (xs.length : Int) := by omega
            clear htp hts hasC hm
            by_cases hct : now.contains p = true
            · have HF := Lib.hid (show (List.range (p + 1)).foldl (stepF x xs G now) (sl, sv) = (s1, s2) by rw [hfr]; unfold stepF; rw [if_pos hct])
              have hmem := (mem_toI now p).2 hct
              clear hfr hct
              go_wp2_with (go_at_call 138; refine (RB.yes (HHas.out _ rn) hmem).mono ?_; rintro e w5 ⟨rfl, rfl⟩)
              go_roundg (xs.length - (p + 1))
              case measure => rw [HG.out]; omega
              case rel => exact ⟨p + 1, by omega, rfl, by rw [HF.out]; exact HWk.out, by go_num⟩
            · have HF := Lib.hid (show (List.range (p + 1)).foldl (stepF x xs G now) (sl, sv) = walkG (costD x xs) xs.length G (now ++ [p]) (s1, s2) by rw [hfr]; unfold stepF; rw [if_neg hct])
              have hmem : ¬ ((p : Int) ∈ toI now) := fun q => hct ((mem_toI now p).1 q)
              have HCt := Lib.hid hct
              -- the cells of the table
              obtain ⟨bp, offp, A1, c1, hA, hbp, e0, r1, _⟩ := (rx.below hbw).at_ hnx
              have hrl := (pairs_row h2 n hnx).1
              have hl1 : n < xs[n].length := by omega
              obtain ⟨b1, off1, hA1, hb1, e1⟩ := r1.at1 (f := fun x : Int => .int .i64 x) hl1
              rw [← tabE_eq n n hnx hl1] at e1
              subst hA1
              rw [hrl] at e0
              have hEb := tabE_bd h2 n n
              have hWb := wait0 x hb (p : Int) (p : Int)
              have hMb := mul_bd hEb hWb
              obtain ⟨E0, hE0⟩ : ∃ E0, tabE xs n n = E0 := ⟨_, rfl⟩
              obtain ⟨V0, hV0⟩ : ∃ V0, waitV x (p : Int) (p : Int) = V0 := ⟨_, rfl⟩
              rw [hE0] at e1 hMb
              rw [hV0] at hMb
              have HE0 := Lib.hid hE0
              have HV0 := Lib.hid hV0
              have n1 : (0 : Int) ≤ (n : Int) := by omega
              have n2 : (n : Int) < (xs.length : Int) := by omega
              have wm : IntKind.i64.wrap (E0 * V0) = E0 * V0 := IntWalk.i64_in _ (by omega)
              have wm2 : IntKind.i64.wrap (C + E0 * V0) = C + E0 * V0 := IntWalk.i64_in _ (by omega)
              have hm01 := hMb.1
              have hm09 := hMb.2
              have WC := fun W => l03Wait_any x hb (p : Int) (p : Int) (by omega) (by omega) W
              rw [hV0] at WC
              have HWC := Lib.hid WC
              have HRl := Lib.hid hrl
              have HR1 := Lib.hid r1
              have HA := Lib.hid hA
              clear hfr hct hE0 hV0 hEb hWb hMb WC hrl r1
              go_wp2_with (go_at_call 138; refine (RB.no (HHas.out _ rn) hmem).mono ?_; rintro e w5 ⟨rfl, rfl⟩)
              subst hA
              go_region_held3 (fun w' => w'.cell? ⟨b, 0, none⟩ = some (.int .i64 x.1) ∧ w'.cell? ⟨b, 1, none⟩ = some (.int .i64 x.2.1) ∧ w'.cell? ⟨b, 2, none⟩ = some (.int .i64 x.2.2.1) ∧ w'.cell? ⟨b, 3, none⟩ = some (.int .i64 x.2.2.2.1) ∧ w'.cell? ⟨b, 4, none⟩ = some (.int .i64 x.2.2.2.2) ∧ w'.cell? ⟨b, 5, none⟩ = some (.slice (some ⟨bp, offp, none⟩) xs.length c) ∧ w'.cell? ⟨bp, offp + n, none⟩ = some (.slice (some ⟨b1, off1, none⟩) xs.length c1) ∧ w'.cell? ⟨b1, off1 + n, none⟩ = some (.int .i64 E0)) (first | exact ⟨d0, d1, d2, d3, d4, d5, e0, e1⟩ | exact ⟨(hb5.cell (p := ⟨b, _, none⟩) hbl).trans d0, (hb5.cell (p := ⟨b, _, none⟩) hbl).trans d1, (hb5.cell (p := ⟨b, _, none⟩) hbl).trans d2, (hb5.cell (p := ⟨b, _, none⟩) hbl).trans d3, (hb5.cell (p := ⟨b, _, none⟩) hbl).trans d4, (hb5.cell (p := ⟨b, _, none⟩) hbl).trans d5, (hb5.cell (p := ⟨bp, _, none⟩) hbp).trans e0, (hb5.cell (p := ⟨b1, _, none⟩) hb1).trans e1⟩) (first | (go_at_call 139; refine (HWC.out _).mono ?_; rintro e w5 ⟨rfl, hb5⟩))
              have hb6 := bundrew hb5
              have HB6 := Lib.hid hb6
              clear hb5 d0 d1 d2 d3 d4 d5 d6 d7 d8 e0 e1
              obtain ⟨M0, hM0⟩ : ∃ M0, C + E0 * V0 = M0 := ⟨_, rfl⟩
              rw [hM0]
              have HM0 := Lib.hid hM0
              have hM0a : 0 ≤ M0 ∧ M0 ≤ 10000000 := by omega
              clear hM0 wm wm2
              go_wp2_with fail
              go_loopg [6, 7] n (fun g2 ms is wi => ∃ i : Nat, i ≤ n ∧ g2 = n - i ∧ Below WO.heap.size WO wi ∧ ms = .int .i64 (M0 + incD x xs now p i) ∧ is = .int .i64 i)
              case atStart => exact ⟨0, Nat.zero_le _, rfl, HB6.out, by congr 1; unfold incD; rw [show sumN 0 _ = 0 from rfl]; omega, rfl⟩
              case round =>
                obtain ⟨i, hin, hg2, hbi, rfl, rfl⟩ := hrel
                have HG2 := Lib.hid hg2
                have hinc := incD_bd x hb xs h2 now p i
                obtain ⟨I0, hI0⟩ : ∃ I0, incD x xs now p i = I0 := ⟨_, rfl⟩
                rw [hI0] at hinc
                have HI0 := Lib.hid hI0
                rw [hI0]
                clear hg2 hb6
                have hm5 := Hm.out.below hbi
                have d0 := hm5.cell0
                have d1 := hm5.cell1
                have d2 := hm5.cell2
                have d3 := hm5.cell3
                have d4 := hm5.cell4
                have d5 := hm5.cell5
                have d6 := hm5.cell6
                have d7 := hm5.cell7
                have d8 := hm5.cell8
                have hbl2 := hm5.lt
                by_cases hlt2 : i < n
                · have hix : i < xs.length := by omega
                  obtain ⟨bp', offp', A1, c1, hA, hbp, e0, r1, _⟩ := (rx.below (hbw.trans (hbi.mono hbw.size))).at_ hnx
                  obtain ⟨bp2, offp2, A2, c2, hA2, hbp2, e2, r2, _⟩ := (rx.below (hbw.trans (hbi.mono hbw.size))).at_ hix
                  simp only [Option.some.injEq, Addr.mk.injEq, and_true] at hA hA2
                  obtain ⟨rfl, rfl⟩ := hA
                  obtain ⟨rfl, rfl⟩ := hA2
                  have hrl := (pairs_row h2 n hnx).1
                  have hrl2 := (pairs_row h2 i hix).1
                  have hl1 : i < xs[n].length := by omega
                  have hl2 : n < xs[i].length := by omega
                  obtain ⟨b1', off1', hA1, hb1, e1⟩ := r1.at1 (f := fun x : Int => .int .i64 x) hl1
                  obtain ⟨b2, off2, hA2, hb2, e3⟩ := r2.at1 (f := fun x : Int => .int .i64 x) hl2
                  rw [← tabE_eq n i hnx hl1] at e1
                  rw [← tabE_eq i n hix hl2] at e3
                  subst hA1
                  subst hA2
                  rw [hrl] at e0
                  rw [hrl2] at e2
                  have hnwl : i < now.length := by rw [HNN.out]; exact hlt2
                  obtain ⟨bn, offn, hAn, hbn, e4⟩ := (rn.below hbi).at1 (f := fun x : Int => .int .i64 x) (k := i) (by rw [toI_len]; exact hnwl)
                  rw [toI_atW now i hnwl] at e4
                  have hnv := HNP.out _ (show now.getD i 0 ∈ now by rw [List.getD_eq_getElem?_getD, List.getElem?_eq_getElem hnwl]; exact List.getElem_mem hnwl)
                  have hEb1 := tabE_bd h2 n i
                  have hEb2 := tabE_bd h2 i n
                  have hstep : incD x xs now p (i + 1) = I0 + (tabE xs i n + tabE xs n i) * waitV x ((now.getD i 0 : Nat) : Int) (p : Int) := by rw [← hI0]; unfold incD; rw [sumN_succ, HNN.out]
                  obtain ⟨Q, hQ⟩ : ∃ Q, now.getD i 0 = Q := ⟨_, rfl⟩
                  rw [hQ] at e4 hnv hstep
                  have hWb := wait0 x hb (Q : Int) (p : Int)
                  have WC := fun W => l03Wait_any x hb (Q : Int) (p : Int) (by omega) (by omega) W
                  obtain ⟨V1, hV1⟩ : ∃ V1, waitV x (Q : Int) (p : Int) = V1 := ⟨_, rfl⟩
                  rw [hV1] at WC hWb hstep
                  obtain ⟨Ea, hEa⟩ : ∃ Ea, tabE xs i n = Ea := ⟨_, rfl⟩
                  obtain ⟨Eb, hEb⟩ : ∃ Eb, tabE xs n i = Eb := ⟨_, rfl⟩
                  rw [hEa] at e3 hEb2 hstep
                  rw [hEb] at e1 hEb1 hstep
                  have hm1 := mul_bd hEb1 hWb
                  have hm2 := mul_bd hEb2 hWb
                  have hmm : (Ea + Eb) * V1 = Ea * V1 + Eb * V1 := Int.add_mul _ _ _
                  have i1 : (0 : Int) ≤ (i : Int) := by omega
                  have i2 : (i : Int) < (xs.length : Int) := by omega
                  have i3 : (i : Int) < (n : Int) := by omega
                  have hi7 : (400000 : Int) * (i : Int) ≤ 2800000 := by omega
                  have wa : IntKind.i64.wrap (Ea + Eb) = Ea + Eb := IntWalk.i64_in _ (by omega)
                  have wb : IntKind.i64.wrap ((Ea + Eb) * V1) = (Ea + Eb) * V1 := IntWalk.i64_in _ (by omega)
                  have wc : IntKind.i64.wrap (M0 + I0 + (Ea + Eb) * V1) = M0 + I0 + (Ea + Eb) * V1 := IntWalk.i64_in _ (by omega)
                  have HStep := Lib.hid hstep
                  have HWC2 := Lib.hid WC
                  have Hrn := Lib.hid rn
                  subst hAn
                  clear hstep WC hQ hV1 hEa hEb hm1 hm2 hmm hWb hEb1 hEb2 hinc hrl hrl2 r1 r2 hI0 rn
                  go_wp2_with fail
                  go_region_held3 (fun w' => w'.cell? ⟨b, 0, none⟩ = some (.int .i64 x.1) ∧ w'.cell? ⟨b, 1, none⟩ = some (.int .i64 x.2.1) ∧ w'.cell? ⟨b, 2, none⟩ = some (.int .i64 x.2.2.1) ∧ w'.cell? ⟨b, 3, none⟩ = some (.int .i64 x.2.2.2.1) ∧ w'.cell? ⟨b, 4, none⟩ = some (.int .i64 x.2.2.2.2) ∧ w'.cell? ⟨b, 5, none⟩ = some (.slice (some ⟨bp, offp, none⟩) xs.length c) ∧ w'.cell? ⟨b, 6, none⟩ = some (.slice (some ⟨bn, offn, none⟩) n cn) ∧ w'.cell? ⟨bp, offp + n, none⟩ = some (.slice (some ⟨b1', off1', none⟩) xs.length c1) ∧ w'.cell? ⟨bp, offp + i, none⟩ = some (.slice (some ⟨b2, off2, none⟩) xs.length c2) ∧ w'.cell? ⟨b1', off1' + i, none⟩ = some (.int .i64 Eb) ∧ w'.cell? ⟨b2, off2 + n, none⟩ = some (.int .i64 Ea) ∧ w'.cell? ⟨bn, offn + i, none⟩ = some (.int .i64 (Q : Int))) (first | exact ⟨d0, d1, d2, d3, d4, d5, d6, e0, e2, e1, e3, e4⟩ | exact ⟨(hb5.cell (p := ⟨b, _, none⟩) hbl2).trans d0, (hb5.cell (p := ⟨b, _, none⟩) hbl2).trans d1, (hb5.cell (p := ⟨b, _, none⟩) hbl2).trans d2, (hb5.cell (p := ⟨b, _, none⟩) hbl2).trans d3, (hb5.cell (p := ⟨b, _, none⟩) hbl2).trans d4, (hb5.cell (p := ⟨b, _, none⟩) hbl2).trans d5, (hb5.cell (p := ⟨b, _, none⟩) hbl2).trans d6, (hb5.cell (p := ⟨bp, _, none⟩) hbp).trans e0, (hb5.cell (p := ⟨bp, _, none⟩) hbp2).trans e2, (hb5.cell (p := ⟨b1', _, none⟩) hb1).trans e1, (hb5.cell (p := ⟨b2, _, none⟩) hb2).trans e3, (hb5.cell (p := ⟨bn, _, none⟩) hbn).trans e4⟩) (first | (go_at_call 139; refine (HWC2.out _).mono ?_; rintro e w5 ⟨rfl, hb5⟩))
                  have hb6 := bundrew hb5
                  go_wp2_with fail
                  go_roundg (n - (i + 1))
                  case measure => rw [HG2.out]; omega
                  case rel => exact ⟨i + 1, by omega, rfl, bnext hbi hb6, by rw [HStep.out, Int.add_assoc], by go_num⟩
                · have hin2 : i = n := by omega
                  subst hin2
                  obtain ⟨WI, rfl⟩ : ∃ WI, WI = wr := ⟨wr, rfl⟩
                  have hMC : costD x xs (now ++ [p]) = M0 + I0 := by rw [costD_app, HC.out, HNN.out, HE0.out, HV0.out, HM0.out, HI0.out]
                  have hlenA : (toI now).length ≤ 7 := by rw [toI_len, HNN.out]; omega
                  have ow2 := (hon.below hbi).below (bal (Below.refl _ _) (.cells #[.int .i64 (p : Int)] 2))
                  have ob2 := (hob.below hbi).below (bal (Below.refl _ _) (.cells #[.int .i64 (p : Int)] 2))
                  have hbs1 : base ≤ WI.heap.size := Nat.le_trans hbs hbi.size
                  have hbs2 : base ≤ (WI.alloc (.cells #[.int .i64 (p : Int)] 2)).heap.size := by rw [World.size_alloc]; omega
                  have hm6 := hm5.alloc (.cells #[.int .i64 (p : Int)] 2)
                  have hbw2 := bal (hbw.trans (hbi.mono hbw.size)) (.cells #[.int .i64 (p : Int)] 2)
                  have IHc := fun W (h1 : WalkAt W0 W b base x (some ⟨bp, offp, none⟩) c xs (now ++ [p]) (s1, s2)) => HIH.out (now ++ [p]) (s1, s2) W (by rw [List.length_append, HNN.out]; simp; omega) (fun r hr => by
                    rcases List.mem_append.1 hr with hr | hr
                    · exact HNP.out r hr
                    · simp only [List.mem_singleton] at hr; omega) HTs.out h1
                  rw [hMC] at IHc
                  skip
                  have HIHc := Lib.hid IHc
                  obtain ⟨SR, hSR⟩ : ∃ SR, walkG (costD x xs) xs.length G (now ++ [p]) (s1, s2) = SR := ⟨_, rfl⟩
                  have HSR := Lib.hid hSR
                  have Hob2 := Lib.hid ob2
                  have Hhm6 := Lib.hid hm6
                  have Hbw2 := Lib.hid hbw2
                  clear IHc hMC hSR hI0 hinc ob2 hm6 hbw2 rn hm5
                  go_wp2_with (first | (go_at_call 107; refine (HIHc.out _ HQ3.out).mono ?_; rintro e w7 ⟨rfl, hW7⟩; rw [HSR.out] at hW7; obtain ⟨vn7, vb7, hm7, hon7, hob7, han7, hab7, hnb7, hbw7, hbs7⟩ := hW7; obtain ⟨g7, cap7, rfl⟩ := own_some hon7 (by rw [toI_len, List.length_append]; simp); rw [toI_len, List.length_append, HNN.out, show i + [p].length = i + 1 from rfl] at hm7 hon7 han7 hnb7; have u6 := hm7.cell6; have uf := hm7.frozen 6; have ucap := own_cap hon7; have u1 : (i : Int) ≤ (cap7 : Int) := (by omega); obtain ⟨Ab7, nb7, cb7, rfl⟩ := own_slice hob7; have HM7 := Lib.hid hm7; have HON7 := Lib.hid hon7; have HOB7 := Lib.hid hob7; have HNB7 := Lib.hid hnb7; clear hm7 hon7 hob7 hnb7) | (at_builtin; refine app_own_at rfl _ _ 26 rfl base 2 i0 _ 1 8 Try.underlying26 hi0 hz hsz hby rfl (by decide) _ (toI now) rfl ow2 ⟨WI.heap.size, 0, none⟩ 1 (p : Int) rfl (cell_one_new _ _ _) (by simp [Value.oneCell']) (by unfold maxLen; omega) (by omega) hbs2 ?_; intro v2 w2 hown2 hg2 hat2; obtain ⟨A5, n5, c5, rfl⟩ := own_slice hown2; have hM2 := Hhm6.out.grown hg2 han.ne; have t6 := hM2.cell6; have tf := hM2.frozen 6; have ap2 := han.next (Hhm6.out.lt) hat2; have HQ3 := Lib.hid (show WalkAt W0 (w2.setCell ⟨b, 6, none⟩ (.slice A5 n5 c5)) b base x (some ⟨bp, offp, none⟩) c xs (now ++ [p]) (s1, s2) from ⟨_, _, hM2.set6 _, (by rw [toI_app]; exact hown2.kept (grown_cs _ b 6 _) ap2.or), (Hob2.out.kept hg2 (apart_orW hnb)).kept (grown_cs _ b 6 _) hab.or, ap2, hab, (walk_apart hnb Hob2.out hat2), bst (Hbw2.out.trans (below_own (B := W0.heap.size) ow2 hg2 hB2 Hbw2.out.size)) (p := ⟨b, 6, none⟩) hB1 _, Nat.le_trans hbs2 (Nat.le_trans hg2.size (grown_cs w2 b 6 _).size)⟩); clear hM2 hown2 hg2 hat2 ap2))
                  go_roundg (xs.length - (p + 1))
                  case measure => rw [HG.out]; omega
                  case rel =>
                    refine ⟨p + 1, by omega, rfl, ?_, by go_num⟩
                    rw [HF.out, HSR.out]
                    have ht7 := own_takeI HON7.out i (by rw [toI_len, List.length_append, HNN.out]; omega)
                    rw [toI_app, List.take_append_of_le_length (by rw [toI_len, HNN.out]; exact Nat.le_refl _), List.take_of_length_le (by rw [toI_len, HNN.out]; exact Nat.le_refl _)] at ht7
                    exact ⟨_, _, HM7.out.set6 _, ht7.kept (grown_cs _ b 6 _) (Apart.or (fun g hg => han7 g hg)), HOB7.out.kept (grown_cs _ b 6 _) hab7.or, fun g hg => han7 g hg, hab7, fun g hg => HNB7.out g hg, bst hbw7 (p := ⟨b, 6, none⟩) hB1 _, Nat.le_trans hbs7 (grown_cs _ b 6 _).size⟩
          · have hpe : p = xs.length := by omega
            subst hpe
            have HSx := Lib.hid (show walkG (costD x xs) xs.length (G + 1) now (sl, sv) = (s1, s2) by rw [HW.out]; exact HS.out)
            clear hfr htp
            go_wp2_with fail
            refine bodyPost_end (v := .tuple #[]) (by simp [results, Try.results107, go_sem]) rfl ⟨rfl, ?_⟩
            rw [HSx.out]
            exact HWk.out
end Go.Proofs.Yteepcnfpdmmnhaa
