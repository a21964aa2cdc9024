/-
  FRunI: what a typist's acts do: impl.typed.
-/
import Derived.Test.YteepcnfpdmmnhaaFRunM
import Derived.Test.YteepcnfpdmmnhaaBlks
import Derived.Test.YteepcnfpdmmnhaaTStruck
import Derived.Deep.QuietTactic
import Derived.BigQuiet
namespace Go.Proofs.Yteepcnfpdmmnhaa
open Go.RowKit
set_option linter.unusedVariables false
attribute [local go_sem ↓] Go.wp_at_zero Go.wp_at_succ
set_option linter.unusedSimpArgs false
set_option maxHeartbeats 12800000 in
set_option maxRecDepth 10000 in
theorem typed_any (x : TCarriage) (hx : CarriageOk x) (A : Option Addr) (c : Nat) (xs : List TAct) (hk : ActsOk xs) (w : World) (rx : Row w A encAct 2 xs) :
    Calls Try.prog 102 #[.agg #[.int .i64 x.1, .int .i64 x.2.1, .int .i64 x.2.2], .slice A xs.length c] w fun e w' => ∃ v, e = .returned (.agg #[v, .int .i64 (tyRun x xs).1.at_, .int .i64 (tyRun x xs).1.bl, .int .i64 (tyRun x xs).2]) ∧ Own w' w.heap.size 128 encStruck 2 v (tyRun x xs).1.ls ∧ Below w.heap.size w w' := by
  obtain ⟨i0, hi0, hz, hsz, hby⟩ := info_parts infoStruck
  have hl200 := hk.1
  have HK := Lib.hid hk.2
  have HQ := Lib.hid (show 0 ≤ x.1 ∧ x.1 ≤ 300 ∧ x.1 ≤ x.2.1 ∧ x.2.1 ≤ 300 ∧ 20 ≤ x.2.1 - x.1 ∧ x.1 ≤ x.2.2 ∧ x.2.2 ≤ x.2.1 from hx)
  clear hx
  obtain ⟨R, hR⟩ : ∃ R, tyGo x xs 0 ⟨x.1, false, 0, []⟩ = R := ⟨_, rfl⟩
  rw [show tyRun x xs = R from hR]
  have HRn := Lib.hid hR
  clear hR hk
  have k0 : At3 (w.alloc (.cells #[.int .i64 x.1, .int .i64 x.2.1, .int .i64 x.2.2] 72)) w.heap.size 72 (.int .i64 x.1) (.int .i64 x.2.1) (.int .i64 x.2.2) := At3.new w _ _ _ _
  have hB0 : Below w.heap.size w (w.alloc (.cells #[.int .i64 x.1, .int .i64 x.2.1, .int .i64 x.2.2] 72)) := bal (Below.refl _ _) _
  have r0 := At4.new (w.alloc (.cells #[.int .i64 x.1, .int .i64 x.2.1, .int .i64 x.2.2] 72)) 147 (.slice none 0 0) (.int .i64 0) (.int .i64 0) (.int .i64 0)
  have k1 := k0.alloc (.cells #[.slice none 0 0, .int .i64 0, .int .i64 0, .int .i64 0] 147)
  have hB1 := bal hB0 (.cells #[.slice none 0 0, .int .i64 0, .int .i64 0, .int .i64 0] 147)
  obtain ⟨W1, hW1⟩ : ∃ W1, W1 = (w.alloc (.cells #[.int .i64 x.1, .int .i64 x.2.1, .int .i64 x.2.2] 72)).alloc (.cells #[.slice none 0 0, .int .i64 0, .int .i64 0, .int .i64 0] 147) := ⟨_, rfl⟩
  have hs1 : W1.heap.size = (w.heap.size + 1 + 1) := by rw [hW1]; simp
  rw [← hW1] at r0 k1 hB1
  rw [show (w.alloc (.cells #[.int .i64 x.1, .int .i64 x.2.1, .int .i64 x.2.2] 72)).heap.size = (w.heap.size + 1) by simp] at r0
  have o2 := Own.lit0 (e := encStruck) (s := 2) W1 (fun _ => rfl) W1.heap.size 128 (Nat.le_refl _)
  have r2 := r0.alloc (.cells #[] 128)
  have k2 := k1.alloc (.cells #[] 128)
  have hB2 := bal hB1 (.cells #[] 128)
  obtain ⟨W2, hW2⟩ : ∃ W2, W2 = W1.alloc (.cells #[] 128) := ⟨_, rfl⟩
  have hs2 : W2.heap.size = (w.heap.size + 1 + 1 + 1) := by rw [hW2]; simp [hs1]
  rw [← hW2] at r2 k2 hB2 o2
  rw [hs1] at o2
  have t3 := At4.new W2 147 (.slice (some ⟨(w.heap.size + 1 + 1), 0, none⟩) 0 0) (.int .i64 x.1) (.int .i64 0) (.int .i64 (-1))
  rw [hs2] at t3
  have OB := (.cells #[.slice (some ⟨(w.heap.size + 1 + 1), 0, none⟩) 0 0, .int .i64 x.1, .int .i64 0, .int .i64 (-1)] 147 : Obj)
  have r3 := r2.alloc (.cells #[.slice (some ⟨(w.heap.size + 1 + 1), 0, none⟩) 0 0, .int .i64 x.1, .int .i64 0, .int .i64 (-1)] 147)
  have k3 := k2.alloc (.cells #[.slice (some ⟨(w.heap.size + 1 + 1), 0, none⟩) 0 0, .int .i64 x.1, .int .i64 0, .int .i64 (-1)] 147)
  have hB3 := bal hB2 (.cells #[.slice (some ⟨(w.heap.size + 1 + 1), 0, none⟩) 0 0, .int .i64 x.1, .int .i64 0, .int .i64 (-1)] 147)
  have o3 := o2.below (bal (Below.refl _ _) (.cells #[.slice (some ⟨(w.heap.size + 1 + 1), 0, none⟩) 0 0, .int .i64 x.1, .int .i64 0, .int .i64 (-1)] 147))
  have a3 : Apart (.slice (some ⟨(w.heap.size + 1 + 1), 0, none⟩) 0 0) (w.heap.size + 1 + 1 + 1) := fun g hg => by simp [Value.ownBlock] at hg; omega
  have HW := Lib.hid hW1
  have HW2 := Lib.hid hW2
  have H0 := Lib.hid (And.intro t3 (And.intro r3 (And.intro k3 (And.intro hB3 (And.intro o3 a3)))))
  clear hW1 hW2 t3 r3 k3 hB3 o3 a3 r0 k0 k1 hB0 hB1 r2 k2 hB2 o2 hs1 hs2 OB
  go_enter Try.func102, Try.ntmps102
  go_wp2_with fail
  rw [← HW.out, ← HW2.out]
  go_loopg [6, 17] xs.length (fun g ms is wr => ∃ (i : Nat) (s : TySt) (v : Value), i ≤ xs.length ∧ g = xs.length - i ∧ TyOk i s ∧ tyGo x (xs.drop i) i s = R ∧ Own wr (w.heap.size + 1 + 1) 128 encStruck 2 v s.ls ∧ Apart v (w.heap.size + 1 + 1 + 1) ∧ At4 wr (w.heap.size + 1 + 1 + 1) 147 v (.int .i64 s.at_) (.int .i64 s.bl) (.int .i64 (-1)) ∧ At4 wr (w.heap.size + 1) 147 (.slice none 0 0) (.int .i64 0) (.int .i64 0) (.int .i64 0) ∧ At3 wr w.heap.size 72 (.int .i64 x.1) (.int .i64 x.2.1) (.int .i64 x.2.2) ∧ Below w.heap.size w wr ∧ ms = .bool (!s.fr) ∧ is = .int .i64 i)
  case atStart =>
    obtain ⟨t3, r3, k3, hB3, o3, a3⟩ := H0.out
    obtain ⟨q1, q2, q3, q4, q5, q6, q7⟩ := HQ.out
    exact ⟨0, ⟨x.1, false, 0, []⟩, _, Nat.zero_le _, rfl, TyOk.start ⟨q1, q2, q3, q4, q5, q6, q7⟩, HRn.out, o3, a3, t3, r3, k3, hB3, rfl, rfl⟩
  case round =>
    obtain ⟨i, ⟨a0, fr, bl, ls⟩, v, hii, hg, hok, hgo, hown, hap, ht, hr, hc, hbw, rfl, rfl⟩ := hrel
    obtain ⟨p1, p2, p3, p4, p5⟩ := hok
    dsimp only at p1 p2 p3 p4 p5 hown ht
    obtain ⟨A2, n2, c2, rfl⟩ := own_slice hown
    have HP := Lib.hid (show (0 ≤ a0 ∧ a0 ≤ 300) ∧ (0 ≤ bl ∧ bl ≤ i) ∧ ls.length ≤ i from ⟨⟨p1, p2⟩, ⟨p3, p4⟩, p5⟩)
    have HG := Lib.hid hg
    have HAp := Lib.hid hap
    clear hg H0 hap
    by_cases hlt : i < xs.length
    · obtain ⟨b, off, hA, hb, c0, c1⟩ := (rx.below hbw).at2 (f := fun x : TAct => .int .i64 x.1) (g := fun x : TAct => .string x.2) (k := i) hlt
      subst hA
      have hact := HK.out _ (List.getElem_mem hlt)
      have hnx : ∀ s', tyStep x xs[i] ⟨a0, fr, bl, ls⟩ = some s' → tyGo x (xs.drop (i + 1)) (i + 1) s' = R := fun s' hs => by rw [tyGo_next hlt hs] at hgo; exact hgo
      have hst : tyStep x xs[i] ⟨a0, fr, bl, ls⟩ = none → ((⟨a0, fr, bl, ls⟩ : TySt), (i : Int)) = R := fun hs => by rw [tyGo_stop hlt hs] at hgo; exact hgo
      obtain ⟨y, hy⟩ : ∃ y, xs[i] = y := ⟨_, rfl⟩
      rw [hy] at c0 c1 hact hnx hst
      obtain ⟨k, l⟩ := y
      dsimp only at c0 c1
      have HNx := Lib.hid hnx
      have HSt := Lib.hid hst
      have i1 : (0 : Int) ≤ (i : Int) := by omega
      have i2 : (i : Int) < (xs.length : Int) := by omega
      have i3 : (i : Int) ≤ 200 := by omega
      have hl5 : ls.length ≤ 200 := by omega
      clear hnx hst hgo hy
      have hkk : (k = 0 ∨ k = 1 ∨ k = 2 ∨ k = 3 ∨ k = 4 ∨ k = 5) := by
        rcases hact with ⟨h, _⟩ | ⟨h, h2, _⟩
        · exact .inl h
        · dsimp only at h2; omega
      clear hact
      have ow1 := hown.below (bal (Below.refl _ _) (.cells #[.int .i64 k, .string l] 142))
      have ht1 := ht.alloc (.cells #[.int .i64 k, .string l] 142)
      have hr1 := hr.alloc (.cells #[.int .i64 k, .string l] 142)
      have hc1 := hc.alloc (.cells #[.int .i64 k, .string l] 142)
      have hb1 := bal hbw (.cells #[.int .i64 k, .string l] 142)
      have Ht := Lib.hid ht1
      have Hr := Lib.hid hr1
      have Hc := Lib.hid hc1
      have d0 := ht1.cell0
      have d1 := ht1.cell1
      have d2 := ht1.cell2
      have d3 := ht1.cell3
      have f0 := ht1.frozen 0
      have f1 := ht1.frozen 1
      have f2 := ht1.frozen 2
      have f3 := ht1.frozen 3
      have g0 := hc1.cell0
      have g1 := hc1.cell1
      have g2 := hc1.cell2
      clear ht hr hc ht1 hr1 hc1 hown
      have w2 : IntKind.i64.wrap (a0 - 2) = a0 - 2 := IntWalk.i64_in _ (by omega)
      have wa2 : IntKind.i64.wrap (a0 + 2) = a0 + 2 := IntWalk.i64_in _ (by omega)
      have wa1 : IntKind.i64.wrap (a0 + 1) = a0 + 1 := IntWalk.i64_in _ (by omega)
      have wb : IntKind.i64.wrap (bl + 1) = bl + 1 := IntWalk.i64_in _ (by omega)
      clear p1 p2 p3 p4 p5
      rcases hkk with rfl | rfl | rfl | rfl | rfl | rfl
      · cases fr with
        | false =>
          by_cases hs : x.2.1 < a0 + 2
          · have hF := HSt.out (tyStep_stop (d := 2) (by simp [stepW]) (by decide) (by unfold tyStop; exact .inl ⟨rfl, hs⟩))
            have t1 : decide (x.2.1 < a0 + 2) = true := decide_eq_true hs
            clear hs
            have HF := Lib.hid hF
            clear hF
            have ht3 := Ht.out.set3 (.int .i64 (i : Int))
            have e0 := ht3.cell0
            have e1 := ht3.cell1
            have e2 := ht3.cell2
            have e3 := ht3.cell3
            have hr3 := Hr.out.setOther (w.heap.size + 1 + 1 + 1) 3 (.int .i64 (i : Int)) (by omega)
            have z0 := hr3.frozen 0
            have n0 := hr3.cell0
            have n1 := (hr3.set0 (.slice A2 n2 c2)).cell1
            have n2' := ((hr3.set0 (.slice A2 n2 c2)).set1 (.int .i64 a0)).cell2
            have n3 := (((hr3.set0 (.slice A2 n2 c2)).set1 (.int .i64 a0)).set2 (.int .i64 bl)).cell3
            have z1 := (hr3.set0 (.slice A2 n2 c2)).frozen 1
            have z2 := ((hr3.set0 (.slice A2 n2 c2)).set1 (.int .i64 a0)).frozen 2
            have z3 := (((hr3.set0 (.slice A2 n2 c2)).set1 (.int .i64 a0)).set2 (.int .i64 bl)).frozen 3
            have hr4 := ((((hr3.set0 (.slice A2 n2 c2)).set1 (.int .i64 a0)).set2 (.int .i64 bl)).set3 (.int .i64 (i : Int)))
            have x0 := hr4.cell0
            have x1 := hr4.cell1
            have x2 := hr4.cell2
            have x3 := hr4.cell3
            clear ht3 hr3 hr4
            go_wp2_with fail
            refine bodyPost_ret (v := .agg #[.slice A2 n2 c2, .int .i64 a0, .int .i64 bl, .int .i64 (i : Int)]) (by simp [results, Try.results102, go_sem, x0, x1, x2, x3]) rfl ⟨.slice A2 n2 c2, by rw [← HF.out], ?_, ?_⟩
            · rw [← HF.out]
              exact Own.mono (((((ow1.kept (grown_cs _ (w.heap.size + 1 + 1 + 1) 3 (.int .i64 (i : Int))) HAp.out.or).setBelow (a := ⟨(w.heap.size + 1), 0, none⟩) (by show (w.heap.size + 1) < (w.heap.size + 1 + 1); omega) ((.slice A2 n2 c2))).setBelow (a := ⟨(w.heap.size + 1), 1, none⟩) (by show (w.heap.size + 1) < (w.heap.size + 1 + 1); omega) (.int .i64 a0)).setBelow (a := ⟨(w.heap.size + 1), 2, none⟩) (by show (w.heap.size + 1) < (w.heap.size + 1 + 1); omega) (.int .i64 bl)).setBelow (a := ⟨(w.heap.size + 1), 3, none⟩) (by show (w.heap.size + 1) < (w.heap.size + 1 + 1); omega) (.int .i64 (i : Int))) (by omega)
            · exact (bst (bst (bst (bst (bst hb1 (p := ⟨(w.heap.size + 1 + 1 + 1), 3, none⟩) (by show w.heap.size ≤ (w.heap.size + 1 + 1 + 1); omega) (.int .i64 (i : Int))) (p := ⟨(w.heap.size + 1), 0, none⟩) (by show w.heap.size ≤ (w.heap.size + 1); omega) ((.slice A2 n2 c2))) (p := ⟨(w.heap.size + 1), 1, none⟩) (by show w.heap.size ≤ (w.heap.size + 1); omega) (.int .i64 a0)) (p := ⟨(w.heap.size + 1), 2, none⟩) (by show w.heap.size ≤ (w.heap.size + 1); omega) (.int .i64 bl)) (p := ⟨(w.heap.size + 1), 3, none⟩) (by show w.heap.size ≤ (w.heap.size + 1); omega) (.int .i64 (i : Int)))
          · have hns : ¬ tyStop x ⟨a0, false, bl, ls⟩ 2 := by unfold tyStop; dsimp only; have := HQ.out; omega
            have t1 : decide (x.2.1 < a0 + 2) = false := decide_eq_false hs
            have t0 : decide (300 < a0 + 2) = false := decide_eq_false (by have := HQ.out; omega)
            have hF := HNx.out _ (tyStep_move (d := 2) (by simp [stepW]) (by decide) hns)
            unfold tyMove at hF
            dsimp only at hF
            clear hns
            rcases ff2 (a0 < x.2.2) (x.2.2 ≤ a0 + 2) with h | ⟨h, h2⟩ | ⟨h, h2⟩
            · have t2 : decide (a0 < x.2.2) = false := decide_eq_false h
              rw [if_neg (fun q => h q.1)] at hF
              rw [if_pos rfl] at hF
              have hle : a0 + 2 ≤ 300 := by obtain ⟨q1, q2, q3, q4, q5, q6, q7⟩ := HQ.out; omega
              have HLe := Lib.hid hle
              have HF := Lib.hid hF
              clear hle hF h hs
              have ow2 := ow1.below (bal (Below.refl _ _) (.cells #[.int .i64 a0, .string l] 128))
              have hb2 := bal hb1 (.cells #[.int .i64 a0, .string l] 128)
              have hbs2 : (w.heap.size + 1 + 1) ≤ ((wr.alloc (.cells #[.int .i64 0, .string l] 142)).alloc (.cells #[.int .i64 a0, .string l] 128)).heap.size := by
                have := Ht.out.lt
                simp only [World.size_alloc] at this ⊢
                omega
              have hbs3 : (w.heap.size + 1 + 1 + 1) < ((wr.alloc (.cells #[.int .i64 0, .string l] 142)).alloc (.cells #[.int .i64 a0, .string l] 128)).heap.size := by
                have := Ht.out.lt
                simp only [World.size_alloc] at this ⊢
                omega
              have hnw : ∀ j u, (encStruck (a0, l))[j]? = some u → ((wr.alloc (.cells #[.int .i64 0, .string l] 142)).alloc (.cells #[.int .i64 a0, .string l] 128)).cell? ((⟨wr.heap.size + 1, 0, none⟩ : Addr).add j) = some u := by
                have h := cells_two_new (wr.alloc (.cells #[.int .i64 0, .string l] 142)) (.int .i64 a0) (.string l) 128
                rw [World.size_alloc] at h
                exact h
              go_wp2_with (at_builtin; refine app_own_at rfl _ _ 61 rfl (w.heap.size + 1 + 1) 128 i0 _ 2 24 Try.underlying61 hi0 hz hsz hby rfl (by decide) _ ls rfl ow2 ⟨wr.heap.size + 1, 0, none⟩ 1 ((a0, l) : TStruck) rfl hnw (by simp [Value.oneCell']) (by unfold maxLen; omega) (by omega) hbs2 ?_; intro v2 w2 hown2 hg2 hat2; obtain ⟨A5, n5, c5, rfl⟩ := own_slice hown2; have Ht2 := Lib.hid ((Ht.out.alloc (.cells #[.int .i64 a0, .string l] 128)).grown hg2 HAp.out.ne); have Hr2 := Lib.hid ((Hr.out.alloc (.cells #[.int .i64 a0, .string l] 128)).grown hg2 (own_ne ow2 (by omega))); have Hc2 := Lib.hid ((Hc.out.alloc (.cells #[.int .i64 a0, .string l] 128)).grown hg2 (own_ne ow2 (by omega))); have hb3 := hb2.trans (below_own (B := w.heap.size) ow2 hg2 (by omega) hb2.size); have ap2 := HAp.out.next hbs3 hat2; have hq := Ht2.out.set0 (.slice A5 n5 c5); have e1 := hq.cell1; have e2 := hq.cell2; have y0 := Ht2.out.frozen 0; have m0 := Ht2.out.cell0; have m1 := (hq.set2 (.int .i64 (bl + 1))).cell1; have y1 := hq.frozen 1; have y2 := hq.frozen 2; have yz := (hq.set2 (.int .i64 (bl + 1))).frozen 1; have g2' := (Hc2.out.setOther (w.heap.size + 1 + 1 + 1) 0 (.slice A5 n5 c5) (by omega)).cell2; clear hq hat2)
              go_roundg (xs.length - (i + 1))
              case measure => rw [HG.out]; omega
              case rel =>
                obtain ⟨⟨p1, p2⟩, ⟨p3, p4⟩, p5⟩ := HP.out
                obtain ⟨q1, q2, q3, q4, q5, q6, q7⟩ := HQ.out
                have hle := HLe.out
                exact ⟨i + 1, ⟨a0 + 2, false, bl, (ls ++ [(a0, l)])⟩, (.slice A5 n5 c5), by omega, rfl, ⟨by dsimp only; omega, by dsimp only; omega, by dsimp only; omega, by dsimp only; omega, by dsimp only; simp; omega⟩, HF.out, ((hown2.kept (grown_cs _ (w.heap.size + 1 + 1 + 1) 0 (.slice A5 n5 c5)) ap2.or).kept (grown_cs _ (w.heap.size + 1 + 1 + 1) 1 (.int .i64 (a0 + 2))) ap2.or), ap2, (Ht2.out |>.set0 (.slice A5 n5 c5) |>.set1 (.int .i64 (a0 + 2))), (Hr2.out |>.setOther (w.heap.size + 1 + 1 + 1) 0 (.slice A5 n5 c5) (by omega) |>.setOther (w.heap.size + 1 + 1 + 1) 1 (.int .i64 (a0 + 2)) (by omega)), (Hc2.out |>.setOther (w.heap.size + 1 + 1 + 1) 0 (.slice A5 n5 c5) (by omega) |>.setOther (w.heap.size + 1 + 1 + 1) 1 (.int .i64 (a0 + 2)) (by omega)), (bst (bst hb3 (p := ⟨(w.heap.size + 1 + 1 + 1), 0, none⟩) (by show w.heap.size ≤ (w.heap.size + 1 + 1 + 1); omega) (.slice A5 n5 c5)) (p := ⟨(w.heap.size + 1 + 1 + 1), 1, none⟩) (by show w.heap.size ≤ (w.heap.size + 1 + 1 + 1); omega) (.int .i64 (a0 + 2))), by simp, by go_num⟩
            · have t2 : decide (a0 < x.2.2) = true := decide_eq_true h
              have t3 : decide (x.2.2 ≤ a0 + 2) = false := decide_eq_false h2
              rw [if_neg (fun q => h2 q.2)] at hF
              rw [if_pos rfl] at hF
              have hle : a0 + 2 ≤ 300 := by obtain ⟨q1, q2, q3, q4, q5, q6, q7⟩ := HQ.out; omega
              have HLe := Lib.hid hle
              have HF := Lib.hid hF
              clear hle hF h h2 hs
              have ow2 := ow1.below (bal (Below.refl _ _) (.cells #[.int .i64 a0, .string l] 128))
              have hb2 := bal hb1 (.cells #[.int .i64 a0, .string l] 128)
              have hbs2 : (w.heap.size + 1 + 1) ≤ ((wr.alloc (.cells #[.int .i64 0, .string l] 142)).alloc (.cells #[.int .i64 a0, .string l] 128)).heap.size := by
                have := Ht.out.lt
                simp only [World.size_alloc] at this ⊢
                omega
              have hbs3 : (w.heap.size + 1 + 1 + 1) < ((wr.alloc (.cells #[.int .i64 0, .string l] 142)).alloc (.cells #[.int .i64 a0, .string l] 128)).heap.size := by
                have := Ht.out.lt
                simp only [World.size_alloc] at this ⊢
                omega
              have hnw : ∀ j u, (encStruck (a0, l))[j]? = some u → ((wr.alloc (.cells #[.int .i64 0, .string l] 142)).alloc (.cells #[.int .i64 a0, .string l] 128)).cell? ((⟨wr.heap.size + 1, 0, none⟩ : Addr).add j) = some u := by
                have h := cells_two_new (wr.alloc (.cells #[.int .i64 0, .string l] 142)) (.int .i64 a0) (.string l) 128
                rw [World.size_alloc] at h
                exact h
              go_wp2_with (at_builtin; refine app_own_at rfl _ _ 61 rfl (w.heap.size + 1 + 1) 128 i0 _ 2 24 Try.underlying61 hi0 hz hsz hby rfl (by decide) _ ls rfl ow2 ⟨wr.heap.size + 1, 0, none⟩ 1 ((a0, l) : TStruck) rfl hnw (by simp [Value.oneCell']) (by unfold maxLen; omega) (by omega) hbs2 ?_; intro v2 w2 hown2 hg2 hat2; obtain ⟨A5, n5, c5, rfl⟩ := own_slice hown2; have Ht2 := Lib.hid ((Ht.out.alloc (.cells #[.int .i64 a0, .string l] 128)).grown hg2 HAp.out.ne); have Hr2 := Lib.hid ((Hr.out.alloc (.cells #[.int .i64 a0, .string l] 128)).grown hg2 (own_ne ow2 (by omega))); have Hc2 := Lib.hid ((Hc.out.alloc (.cells #[.int .i64 a0, .string l] 128)).grown hg2 (own_ne ow2 (by omega))); have hb3 := hb2.trans (below_own (B := w.heap.size) ow2 hg2 (by omega) hb2.size); have ap2 := HAp.out.next hbs3 hat2; have hq := Ht2.out.set0 (.slice A5 n5 c5); have e1 := hq.cell1; have e2 := hq.cell2; have y0 := Ht2.out.frozen 0; have m0 := Ht2.out.cell0; have m1 := (hq.set2 (.int .i64 (bl + 1))).cell1; have y1 := hq.frozen 1; have y2 := hq.frozen 2; have yz := (hq.set2 (.int .i64 (bl + 1))).frozen 1; have g2' := (Hc2.out.setOther (w.heap.size + 1 + 1 + 1) 0 (.slice A5 n5 c5) (by omega)).cell2; clear hq hat2)
              go_roundg (xs.length - (i + 1))
              case measure => rw [HG.out]; omega
              case rel =>
                obtain ⟨⟨p1, p2⟩, ⟨p3, p4⟩, p5⟩ := HP.out
                obtain ⟨q1, q2, q3, q4, q5, q6, q7⟩ := HQ.out
                have hle := HLe.out
                exact ⟨i + 1, ⟨a0 + 2, false, bl, (ls ++ [(a0, l)])⟩, (.slice A5 n5 c5), by omega, rfl, ⟨by dsimp only; omega, by dsimp only; omega, by dsimp only; omega, by dsimp only; omega, by dsimp only; simp; omega⟩, HF.out, ((hown2.kept (grown_cs _ (w.heap.size + 1 + 1 + 1) 0 (.slice A5 n5 c5)) ap2.or).kept (grown_cs _ (w.heap.size + 1 + 1 + 1) 1 (.int .i64 (a0 + 2))) ap2.or), ap2, (Ht2.out |>.set0 (.slice A5 n5 c5) |>.set1 (.int .i64 (a0 + 2))), (Hr2.out |>.setOther (w.heap.size + 1 + 1 + 1) 0 (.slice A5 n5 c5) (by omega) |>.setOther (w.heap.size + 1 + 1 + 1) 1 (.int .i64 (a0 + 2)) (by omega)), (Hc2.out |>.setOther (w.heap.size + 1 + 1 + 1) 0 (.slice A5 n5 c5) (by omega) |>.setOther (w.heap.size + 1 + 1 + 1) 1 (.int .i64 (a0 + 2)) (by omega)), (bst (bst hb3 (p := ⟨(w.heap.size + 1 + 1 + 1), 0, none⟩) (by show w.heap.size ≤ (w.heap.size + 1 + 1 + 1); omega) (.slice A5 n5 c5)) (p := ⟨(w.heap.size + 1 + 1 + 1), 1, none⟩) (by show w.heap.size ≤ (w.heap.size + 1 + 1 + 1); omega) (.int .i64 (a0 + 2))), by simp, by go_num⟩
            · have t2 : decide (a0 < x.2.2) = true := decide_eq_true h
              have t3 : decide (x.2.2 ≤ a0 + 2) = true := decide_eq_true h2
              rw [if_pos ⟨h, h2⟩] at hF
              rw [if_pos rfl] at hF
              have hle : a0 + 2 ≤ 300 := by obtain ⟨q1, q2, q3, q4, q5, q6, q7⟩ := HQ.out; omega
              have HLe := Lib.hid hle
              have HF := Lib.hid hF
              clear hle hF h h2 hs
              have ow2 := ow1.below (bal (Below.refl _ _) (.cells #[.int .i64 a0, .string l] 128))
              have hb2 := bal hb1 (.cells #[.int .i64 a0, .string l] 128)
              have hbs2 : (w.heap.size + 1 + 1) ≤ ((wr.alloc (.cells #[.int .i64 0, .string l] 142)).alloc (.cells #[.int .i64 a0, .string l] 128)).heap.size := by
                have := Ht.out.lt
                simp only [World.size_alloc] at this ⊢
                omega
              have hbs3 : (w.heap.size + 1 + 1 + 1) < ((wr.alloc (.cells #[.int .i64 0, .string l] 142)).alloc (.cells #[.int .i64 a0, .string l] 128)).heap.size := by
                have := Ht.out.lt
                simp only [World.size_alloc] at this ⊢
                omega
              have hnw : ∀ j u, (encStruck (a0, l))[j]? = some u → ((wr.alloc (.cells #[.int .i64 0, .string l] 142)).alloc (.cells #[.int .i64 a0, .string l] 128)).cell? ((⟨wr.heap.size + 1, 0, none⟩ : Addr).add j) = some u := by
                have h := cells_two_new (wr.alloc (.cells #[.int .i64 0, .string l] 142)) (.int .i64 a0) (.string l) 128
                rw [World.size_alloc] at h
                exact h
              go_wp2_with (at_builtin; refine app_own_at rfl _ _ 61 rfl (w.heap.size + 1 + 1) 128 i0 _ 2 24 Try.underlying61 hi0 hz hsz hby rfl (by decide) _ ls rfl ow2 ⟨wr.heap.size + 1, 0, none⟩ 1 ((a0, l) : TStruck) rfl hnw (by simp [Value.oneCell']) (by unfold maxLen; omega) (by omega) hbs2 ?_; intro v2 w2 hown2 hg2 hat2; obtain ⟨A5, n5, c5, rfl⟩ := own_slice hown2; have Ht2 := Lib.hid ((Ht.out.alloc (.cells #[.int .i64 a0, .string l] 128)).grown hg2 HAp.out.ne); have Hr2 := Lib.hid ((Hr.out.alloc (.cells #[.int .i64 a0, .string l] 128)).grown hg2 (own_ne ow2 (by omega))); have Hc2 := Lib.hid ((Hc.out.alloc (.cells #[.int .i64 a0, .string l] 128)).grown hg2 (own_ne ow2 (by omega))); have hb3 := hb2.trans (below_own (B := w.heap.size) ow2 hg2 (by omega) hb2.size); have ap2 := HAp.out.next hbs3 hat2; have hq := Ht2.out.set0 (.slice A5 n5 c5); have e1 := hq.cell1; have e2 := hq.cell2; have y0 := Ht2.out.frozen 0; have m0 := Ht2.out.cell0; have m1 := (hq.set2 (.int .i64 (bl + 1))).cell1; have y1 := hq.frozen 1; have y2 := hq.frozen 2; have yz := (hq.set2 (.int .i64 (bl + 1))).frozen 1; have g2' := (Hc2.out.setOther (w.heap.size + 1 + 1 + 1) 0 (.slice A5 n5 c5) (by omega)).cell2; clear hq hat2)
              go_roundg (xs.length - (i + 1))
              case measure => rw [HG.out]; omega
              case rel =>
                obtain ⟨⟨p1, p2⟩, ⟨p3, p4⟩, p5⟩ := HP.out
                obtain ⟨q1, q2, q3, q4, q5, q6, q7⟩ := HQ.out
                have hle := HLe.out
                exact ⟨i + 1, ⟨a0 + 2, false, bl + 1, (ls ++ [(a0, l)])⟩, (.slice A5 n5 c5), by omega, rfl, ⟨by dsimp only; omega, by dsimp only; omega, by dsimp only; omega, by dsimp only; omega, by dsimp only; simp; omega⟩, HF.out, (((hown2.kept (grown_cs _ (w.heap.size + 1 + 1 + 1) 0 (.slice A5 n5 c5)) ap2.or).kept (grown_cs _ (w.heap.size + 1 + 1 + 1) 2 (.int .i64 (bl + 1))) ap2.or).kept (grown_cs _ (w.heap.size + 1 + 1 + 1) 1 (.int .i64 (a0 + 2))) ap2.or), ap2, (Ht2.out |>.set0 (.slice A5 n5 c5) |>.set2 (.int .i64 (bl + 1)) |>.set1 (.int .i64 (a0 + 2))), (Hr2.out |>.setOther (w.heap.size + 1 + 1 + 1) 0 (.slice A5 n5 c5) (by omega) |>.setOther (w.heap.size + 1 + 1 + 1) 2 (.int .i64 (bl + 1)) (by omega) |>.setOther (w.heap.size + 1 + 1 + 1) 1 (.int .i64 (a0 + 2)) (by omega)), (Hc2.out |>.setOther (w.heap.size + 1 + 1 + 1) 0 (.slice A5 n5 c5) (by omega) |>.setOther (w.heap.size + 1 + 1 + 1) 2 (.int .i64 (bl + 1)) (by omega) |>.setOther (w.heap.size + 1 + 1 + 1) 1 (.int .i64 (a0 + 2)) (by omega)), (bst (bst (bst hb3 (p := ⟨(w.heap.size + 1 + 1 + 1), 0, none⟩) (by show w.heap.size ≤ (w.heap.size + 1 + 1 + 1); omega) (.slice A5 n5 c5)) (p := ⟨(w.heap.size + 1 + 1 + 1), 2, none⟩) (by show w.heap.size ≤ (w.heap.size + 1 + 1 + 1); omega) (.int .i64 (bl + 1))) (p := ⟨(w.heap.size + 1 + 1 + 1), 1, none⟩) (by show w.heap.size ≤ (w.heap.size + 1 + 1 + 1); omega) (.int .i64 (a0 + 2))), by simp, by go_num⟩
        | true =>
          by_cases hs : 300 < a0 + 2
          · have hF := HSt.out (tyStep_stop (d := 2) (by simp [stepW]) (by decide) (by unfold tyStop; exact .inr hs))
            have t1 : decide (300 < a0 + 2) = true := decide_eq_true hs
            clear hs
            have HF := Lib.hid hF
            clear hF
            have ht3 := Ht.out.set3 (.int .i64 (i : Int))
            have e0 := ht3.cell0
            have e1 := ht3.cell1
            have e2 := ht3.cell2
            have e3 := ht3.cell3
            have hr3 := Hr.out.setOther (w.heap.size + 1 + 1 + 1) 3 (.int .i64 (i : Int)) (by omega)
            have z0 := hr3.frozen 0
            have n0 := hr3.cell0
            have n1 := (hr3.set0 (.slice A2 n2 c2)).cell1
            have n2' := ((hr3.set0 (.slice A2 n2 c2)).set1 (.int .i64 a0)).cell2
            have n3 := (((hr3.set0 (.slice A2 n2 c2)).set1 (.int .i64 a0)).set2 (.int .i64 bl)).cell3
            have z1 := (hr3.set0 (.slice A2 n2 c2)).frozen 1
            have z2 := ((hr3.set0 (.slice A2 n2 c2)).set1 (.int .i64 a0)).frozen 2
            have z3 := (((hr3.set0 (.slice A2 n2 c2)).set1 (.int .i64 a0)).set2 (.int .i64 bl)).frozen 3
            have hr4 := ((((hr3.set0 (.slice A2 n2 c2)).set1 (.int .i64 a0)).set2 (.int .i64 bl)).set3 (.int .i64 (i : Int)))
            have x0 := hr4.cell0
            have x1 := hr4.cell1
            have x2 := hr4.cell2
            have x3 := hr4.cell3
            clear ht3 hr3 hr4
            go_wp2_with fail
            refine bodyPost_ret (v := .agg #[.slice A2 n2 c2, .int .i64 a0, .int .i64 bl, .int .i64 (i : Int)]) (by simp [results, Try.results102, go_sem, x0, x1, x2, x3]) rfl ⟨.slice A2 n2 c2, by rw [← HF.out], ?_, ?_⟩
            · rw [← HF.out]
              exact Own.mono (((((ow1.kept (grown_cs _ (w.heap.size + 1 + 1 + 1) 3 (.int .i64 (i : Int))) HAp.out.or).setBelow (a := ⟨(w.heap.size + 1), 0, none⟩) (by show (w.heap.size + 1) < (w.heap.size + 1 + 1); omega) ((.slice A2 n2 c2))).setBelow (a := ⟨(w.heap.size + 1), 1, none⟩) (by show (w.heap.size + 1) < (w.heap.size + 1 + 1); omega) (.int .i64 a0)).setBelow (a := ⟨(w.heap.size + 1), 2, none⟩) (by show (w.heap.size + 1) < (w.heap.size + 1 + 1); omega) (.int .i64 bl)).setBelow (a := ⟨(w.heap.size + 1), 3, none⟩) (by show (w.heap.size + 1) < (w.heap.size + 1 + 1); omega) (.int .i64 (i : Int))) (by omega)
            · exact (bst (bst (bst (bst (bst hb1 (p := ⟨(w.heap.size + 1 + 1 + 1), 3, none⟩) (by show w.heap.size ≤ (w.heap.size + 1 + 1 + 1); omega) (.int .i64 (i : Int))) (p := ⟨(w.heap.size + 1), 0, none⟩) (by show w.heap.size ≤ (w.heap.size + 1); omega) ((.slice A2 n2 c2))) (p := ⟨(w.heap.size + 1), 1, none⟩) (by show w.heap.size ≤ (w.heap.size + 1); omega) (.int .i64 a0)) (p := ⟨(w.heap.size + 1), 2, none⟩) (by show w.heap.size ≤ (w.heap.size + 1); omega) (.int .i64 bl)) (p := ⟨(w.heap.size + 1), 3, none⟩) (by show w.heap.size ≤ (w.heap.size + 1); omega) (.int .i64 (i : Int)))
          · have hns : ¬ tyStop x ⟨a0, true, bl, ls⟩ 2 := by unfold tyStop; dsimp only; simp; omega
            have t0 : decide (300 < a0 + 2) = false := decide_eq_false (by have := HQ.out; omega)
            have hF := HNx.out _ (tyStep_move (d := 2) (by simp [stepW]) (by decide) hns)
            unfold tyMove at hF
            dsimp only at hF
            clear hns
            rcases ff2 (a0 < x.2.2) (x.2.2 ≤ a0 + 2) with h | ⟨h, h2⟩ | ⟨h, h2⟩
            · have t2 : decide (a0 < x.2.2) = false := decide_eq_false h
              rw [if_neg (fun q => h q.1)] at hF
              rw [if_pos rfl] at hF
              have hle : a0 + 2 ≤ 300 := by obtain ⟨q1, q2, q3, q4, q5, q6, q7⟩ := HQ.out; omega
              have HLe := Lib.hid hle
              have HF := Lib.hid hF
              clear hle hF h hs
              have ow2 := ow1.below (bal (Below.refl _ _) (.cells #[.int .i64 a0, .string l] 128))
              have hb2 := bal hb1 (.cells #[.int .i64 a0, .string l] 128)
              have hbs2 : (w.heap.size + 1 + 1) ≤ ((wr.alloc (.cells #[.int .i64 0, .string l] 142)).alloc (.cells #[.int .i64 a0, .string l] 128)).heap.size := by
                have := Ht.out.lt
                simp only [World.size_alloc] at this ⊢
                omega
              have hbs3 : (w.heap.size + 1 + 1 + 1) < ((wr.alloc (.cells #[.int .i64 0, .string l] 142)).alloc (.cells #[.int .i64 a0, .string l] 128)).heap.size := by
                have := Ht.out.lt
                simp only [World.size_alloc] at this ⊢
                omega
              have hnw : ∀ j u, (encStruck (a0, l))[j]? = some u → ((wr.alloc (.cells #[.int .i64 0, .string l] 142)).alloc (.cells #[.int .i64 a0, .string l] 128)).cell? ((⟨wr.heap.size + 1, 0, none⟩ : Addr).add j) = some u := by
                have h := cells_two_new (wr.alloc (.cells #[.int .i64 0, .string l] 142)) (.int .i64 a0) (.string l) 128
                rw [World.size_alloc] at h
                exact h
              go_wp2_with (at_builtin; refine app_own_at rfl _ _ 61 rfl (w.heap.size + 1 + 1) 128 i0 _ 2 24 Try.underlying61 hi0 hz hsz hby rfl (by decide) _ ls rfl ow2 ⟨wr.heap.size + 1, 0, none⟩ 1 ((a0, l) : TStruck) rfl hnw (by simp [Value.oneCell']) (by unfold maxLen; omega) (by omega) hbs2 ?_; intro v2 w2 hown2 hg2 hat2; obtain ⟨A5, n5, c5, rfl⟩ := own_slice hown2; have Ht2 := Lib.hid ((Ht.out.alloc (.cells #[.int .i64 a0, .string l] 128)).grown hg2 HAp.out.ne); have Hr2 := Lib.hid ((Hr.out.alloc (.cells #[.int .i64 a0, .string l] 128)).grown hg2 (own_ne ow2 (by omega))); have Hc2 := Lib.hid ((Hc.out.alloc (.cells #[.int .i64 a0, .string l] 128)).grown hg2 (own_ne ow2 (by omega))); have hb3 := hb2.trans (below_own (B := w.heap.size) ow2 hg2 (by omega) hb2.size); have ap2 := HAp.out.next hbs3 hat2; have hq := Ht2.out.set0 (.slice A5 n5 c5); have e1 := hq.cell1; have e2 := hq.cell2; have y0 := Ht2.out.frozen 0; have m0 := Ht2.out.cell0; have m1 := (hq.set2 (.int .i64 (bl + 1))).cell1; have y1 := hq.frozen 1; have y2 := hq.frozen 2; have yz := (hq.set2 (.int .i64 (bl + 1))).frozen 1; have g2' := (Hc2.out.setOther (w.heap.size + 1 + 1 + 1) 0 (.slice A5 n5 c5) (by omega)).cell2; clear hq hat2)
              go_roundg (xs.length - (i + 1))
              case measure => rw [HG.out]; omega
              case rel =>
                obtain ⟨⟨p1, p2⟩, ⟨p3, p4⟩, p5⟩ := HP.out
                obtain ⟨q1, q2, q3, q4, q5, q6, q7⟩ := HQ.out
                have hle := HLe.out
                exact ⟨i + 1, ⟨a0 + 2, true, bl, (ls ++ [(a0, l)])⟩, (.slice A5 n5 c5), by omega, rfl, ⟨by dsimp only; omega, by dsimp only; omega, by dsimp only; omega, by dsimp only; omega, by dsimp only; simp; omega⟩, HF.out, ((hown2.kept (grown_cs _ (w.heap.size + 1 + 1 + 1) 0 (.slice A5 n5 c5)) ap2.or).kept (grown_cs _ (w.heap.size + 1 + 1 + 1) 1 (.int .i64 (a0 + 2))) ap2.or), ap2, (Ht2.out |>.set0 (.slice A5 n5 c5) |>.set1 (.int .i64 (a0 + 2))), (Hr2.out |>.setOther (w.heap.size + 1 + 1 + 1) 0 (.slice A5 n5 c5) (by omega) |>.setOther (w.heap.size + 1 + 1 + 1) 1 (.int .i64 (a0 + 2)) (by omega)), (Hc2.out |>.setOther (w.heap.size + 1 + 1 + 1) 0 (.slice A5 n5 c5) (by omega) |>.setOther (w.heap.size + 1 + 1 + 1) 1 (.int .i64 (a0 + 2)) (by omega)), (bst (bst hb3 (p := ⟨(w.heap.size + 1 + 1 + 1), 0, none⟩) (by show w.heap.size ≤ (w.heap.size + 1 + 1 + 1); omega) (.slice A5 n5 c5)) (p := ⟨(w.heap.size + 1 + 1 + 1), 1, none⟩) (by show w.heap.size ≤ (w.heap.size + 1 + 1 + 1); omega) (.int .i64 (a0 + 2))), by simp, by go_num⟩
            · have t2 : decide (a0 < x.2.2) = true := decide_eq_true h
              have t3 : decide (x.2.2 ≤ a0 + 2) = false := decide_eq_false h2
              rw [if_neg (fun q => h2 q.2)] at hF
              rw [if_pos rfl] at hF
              have hle : a0 + 2 ≤ 300 := by obtain ⟨q1, q2, q3, q4, q5, q6, q7⟩ := HQ.out; omega
              have HLe := Lib.hid hle
              have HF := Lib.hid hF
              clear hle hF h h2 hs
              have ow2 := ow1.below (bal (Below.refl _ _) (.cells #[.int .i64 a0, .string l] 128))
              have hb2 := bal hb1 (.cells #[.int .i64 a0, .string l] 128)
              have hbs2 : (w.heap.size + 1 + 1) ≤ ((wr.alloc (.cells #[.int .i64 0, .string l] 142)).alloc (.cells #[.int .i64 a0, .string l] 128)).heap.size := by
                have := Ht.out.lt
                simp only [World.size_alloc] at this ⊢
                omega
              have hbs3 : (w.heap.size + 1 + 1 + 1) < ((wr.alloc (.cells #[.int .i64 0, .string l] 142)).alloc (.cells #[.int .i64 a0, .string l] 128)).heap.size := by
                have := Ht.out.lt
                simp only [World.size_alloc] at this ⊢
                omega
              have hnw : ∀ j u, (encStruck (a0, l))[j]? = some u → ((wr.alloc (.cells #[.int .i64 0, .string l] 142)).alloc (.cells #[.int .i64 a0, .string l] 128)).cell? ((⟨wr.heap.size + 1, 0, none⟩ : Addr).add j) = some u := by
                have h := cells_two_new (wr.alloc (.cells #[.int .i64 0, .string l] 142)) (.int .i64 a0) (.string l) 128
                rw [World.size_alloc] at h
                exact h
              go_wp2_with (at_builtin; refine app_own_at rfl _ _ 61 rfl (w.heap.size + 1 + 1) 128 i0 _ 2 24 Try.underlying61 hi0 hz hsz hby rfl (by decide) _ ls rfl ow2 ⟨wr.heap.size + 1, 0, none⟩ 1 ((a0, l) : TStruck) rfl hnw (by simp [Value.oneCell']) (by unfold maxLen; omega) (by omega) hbs2 ?_; intro v2 w2 hown2 hg2 hat2; obtain ⟨A5, n5, c5, rfl⟩ := own_slice hown2; have Ht2 := Lib.hid ((Ht.out.alloc (.cells #[.int .i64 a0, .string l] 128)).grown hg2 HAp.out.ne); have Hr2 := Lib.hid ((Hr.out.alloc (.cells #[.int .i64 a0, .string l] 128)).grown hg2 (own_ne ow2 (by omega))); have Hc2 := Lib.hid ((Hc.out.alloc (.cells #[.int .i64 a0, .string l] 128)).grown hg2 (own_ne ow2 (by omega))); have hb3 := hb2.trans (below_own (B := w.heap.size) ow2 hg2 (by omega) hb2.size); have ap2 := HAp.out.next hbs3 hat2; have hq := Ht2.out.set0 (.slice A5 n5 c5); have e1 := hq.cell1; have e2 := hq.cell2; have y0 := Ht2.out.frozen 0; have m0 := Ht2.out.cell0; have m1 := (hq.set2 (.int .i64 (bl + 1))).cell1; have y1 := hq.frozen 1; have y2 := hq.frozen 2; have yz := (hq.set2 (.int .i64 (bl + 1))).frozen 1; have g2' := (Hc2.out.setOther (w.heap.size + 1 + 1 + 1) 0 (.slice A5 n5 c5) (by omega)).cell2; clear hq hat2)
              go_roundg (xs.length - (i + 1))
              case measure => rw [HG.out]; omega
              case rel =>
                obtain ⟨⟨p1, p2⟩, ⟨p3, p4⟩, p5⟩ := HP.out
                obtain ⟨q1, q2, q3, q4, q5, q6, q7⟩ := HQ.out
                have hle := HLe.out
                exact ⟨i + 1, ⟨a0 + 2, true, bl, (ls ++ [(a0, l)])⟩, (.slice A5 n5 c5), by omega, rfl, ⟨by dsimp only; omega, by dsimp only; omega, by dsimp only; omega, by dsimp only; omega, by dsimp only; simp; omega⟩, HF.out, ((hown2.kept (grown_cs _ (w.heap.size + 1 + 1 + 1) 0 (.slice A5 n5 c5)) ap2.or).kept (grown_cs _ (w.heap.size + 1 + 1 + 1) 1 (.int .i64 (a0 + 2))) ap2.or), ap2, (Ht2.out |>.set0 (.slice A5 n5 c5) |>.set1 (.int .i64 (a0 + 2))), (Hr2.out |>.setOther (w.heap.size + 1 + 1 + 1) 0 (.slice A5 n5 c5) (by omega) |>.setOther (w.heap.size + 1 + 1 + 1) 1 (.int .i64 (a0 + 2)) (by omega)), (Hc2.out |>.setOther (w.heap.size + 1 + 1 + 1) 0 (.slice A5 n5 c5) (by omega) |>.setOther (w.heap.size + 1 + 1 + 1) 1 (.int .i64 (a0 + 2)) (by omega)), (bst (bst hb3 (p := ⟨(w.heap.size + 1 + 1 + 1), 0, none⟩) (by show w.heap.size ≤ (w.heap.size + 1 + 1 + 1); omega) (.slice A5 n5 c5)) (p := ⟨(w.heap.size + 1 + 1 + 1), 1, none⟩) (by show w.heap.size ≤ (w.heap.size + 1 + 1 + 1); omega) (.int .i64 (a0 + 2))), by simp, by go_num⟩
            · have t2 : decide (a0 < x.2.2) = true := decide_eq_true h
              have t3 : decide (x.2.2 ≤ a0 + 2) = true := decide_eq_true h2
              rw [if_pos ⟨h, h2⟩] at hF
              rw [if_pos rfl] at hF
              have hle : a0 + 2 ≤ 300 := by obtain ⟨q1, q2, q3, q4, q5, q6, q7⟩ := HQ.out; omega
              have HLe := Lib.hid hle
              have HF := Lib.hid hF
              clear hle hF h h2 hs
              have ow2 := ow1.below (bal (Below.refl _ _) (.cells #[.int .i64 a0, .string l] 128))
              have hb2 := bal hb1 (.cells #[.int .i64 a0, .string l] 128)
              have hbs2 : (w.heap.size + 1 + 1) ≤ ((wr.alloc (.cells #[.int .i64 0, .string l] 142)).alloc (.cells #[.int .i64 a0, .string l] 128)).heap.size := by
                have := Ht.out.lt
                simp only [World.size_alloc] at this ⊢
                omega
              have hbs3 : (w.heap.size + 1 + 1 + 1) < ((wr.alloc (.cells #[.int .i64 0, .string l] 142)).alloc (.cells #[.int .i64 a0, .string l] 128)).heap.size := by
                have := Ht.out.lt
                simp only [World.size_alloc] at this ⊢
                omega
              have hnw : ∀ j u, (encStruck (a0, l))[j]? = some u → ((wr.alloc (.cells #[.int .i64 0, .string l] 142)).alloc (.cells #[.int .i64 a0, .string l] 128)).cell? ((⟨wr.heap.size + 1, 0, none⟩ : Addr).add j) = some u := by
                have h := cells_two_new (wr.alloc (.cells #[.int .i64 0, .string l] 142)) (.int .i64 a0) (.string l) 128
                rw [World.size_alloc] at h
                exact h
              go_wp2_with (at_builtin; refine app_own_at rfl _ _ 61 rfl (w.heap.size + 1 + 1) 128 i0 _ 2 24 Try.underlying61 hi0 hz hsz hby rfl (by decide) _ ls rfl ow2 ⟨wr.heap.size + 1, 0, none⟩ 1 ((a0, l) : TStruck) rfl hnw (by simp [Value.oneCell']) (by unfold maxLen; omega) (by omega) hbs2 ?_; intro v2 w2 hown2 hg2 hat2; obtain ⟨A5, n5, c5, rfl⟩ := own_slice hown2; have Ht2 := Lib.hid ((Ht.out.alloc (.cells #[.int .i64 a0, .string l] 128)).grown hg2 HAp.out.ne); have Hr2 := Lib.hid ((Hr.out.alloc (.cells #[.int .i64 a0, .string l] 128)).grown hg2 (own_ne ow2 (by omega))); have Hc2 := Lib.hid ((Hc.out.alloc (.cells #[.int .i64 a0, .string l] 128)).grown hg2 (own_ne ow2 (by omega))); have hb3 := hb2.trans (below_own (B := w.heap.size) ow2 hg2 (by omega) hb2.size); have ap2 := HAp.out.next hbs3 hat2; have hq := Ht2.out.set0 (.slice A5 n5 c5); have e1 := hq.cell1; have e2 := hq.cell2; have y0 := Ht2.out.frozen 0; have m0 := Ht2.out.cell0; have m1 := (hq.set2 (.int .i64 (bl + 1))).cell1; have y1 := hq.frozen 1; have y2 := hq.frozen 2; have yz := (hq.set2 (.int .i64 (bl + 1))).frozen 1; have g2' := (Hc2.out.setOther (w.heap.size + 1 + 1 + 1) 0 (.slice A5 n5 c5) (by omega)).cell2; clear hq hat2)
              go_roundg (xs.length - (i + 1))
              case measure => rw [HG.out]; omega
              case rel =>
                obtain ⟨⟨p1, p2⟩, ⟨p3, p4⟩, p5⟩ := HP.out
                obtain ⟨q1, q2, q3, q4, q5, q6, q7⟩ := HQ.out
                have hle := HLe.out
                exact ⟨i + 1, ⟨a0 + 2, true, bl + 1, (ls ++ [(a0, l)])⟩, (.slice A5 n5 c5), by omega, rfl, ⟨by dsimp only; omega, by dsimp only; omega, by dsimp only; omega, by dsimp only; omega, by dsimp only; simp; omega⟩, HF.out, (((hown2.kept (grown_cs _ (w.heap.size + 1 + 1 + 1) 0 (.slice A5 n5 c5)) ap2.or).kept (grown_cs _ (w.heap.size + 1 + 1 + 1) 2 (.int .i64 (bl + 1))) ap2.or).kept (grown_cs _ (w.heap.size + 1 + 1 + 1) 1 (.int .i64 (a0 + 2))) ap2.or), ap2, (Ht2.out |>.set0 (.slice A5 n5 c5) |>.set2 (.int .i64 (bl + 1)) |>.set1 (.int .i64 (a0 + 2))), (Hr2.out |>.setOther (w.heap.size + 1 + 1 + 1) 0 (.slice A5 n5 c5) (by omega) |>.setOther (w.heap.size + 1 + 1 + 1) 2 (.int .i64 (bl + 1)) (by omega) |>.setOther (w.heap.size + 1 + 1 + 1) 1 (.int .i64 (a0 + 2)) (by omega)), (Hc2.out |>.setOther (w.heap.size + 1 + 1 + 1) 0 (.slice A5 n5 c5) (by omega) |>.setOther (w.heap.size + 1 + 1 + 1) 2 (.int .i64 (bl + 1)) (by omega) |>.setOther (w.heap.size + 1 + 1 + 1) 1 (.int .i64 (a0 + 2)) (by omega)), (bst (bst (bst hb3 (p := ⟨(w.heap.size + 1 + 1 + 1), 0, none⟩) (by show w.heap.size ≤ (w.heap.size + 1 + 1 + 1); omega) (.slice A5 n5 c5)) (p := ⟨(w.heap.size + 1 + 1 + 1), 2, none⟩) (by show w.heap.size ≤ (w.heap.size + 1 + 1 + 1); omega) (.int .i64 (bl + 1))) (p := ⟨(w.heap.size + 1 + 1 + 1), 1, none⟩) (by show w.heap.size ≤ (w.heap.size + 1 + 1 + 1); omega) (.int .i64 (a0 + 2))), by simp, by go_num⟩
      · cases fr with
        | false =>
          by_cases hs : x.2.1 < a0 + 2
          · have hF := HSt.out (tyStep_stop (d := 2) (by simp [stepW]) (by decide) (by unfold tyStop; exact .inl ⟨rfl, hs⟩))
            have t1 : decide (x.2.1 < a0 + 2) = true := decide_eq_true hs
            clear hs
            have HF := Lib.hid hF
            clear hF
            have ht3 := Ht.out.set3 (.int .i64 (i : Int))
            have e0 := ht3.cell0
            have e1 := ht3.cell1
            have e2 := ht3.cell2
            have e3 := ht3.cell3
            have hr3 := Hr.out.setOther (w.heap.size + 1 + 1 + 1) 3 (.int .i64 (i : Int)) (by omega)
            have z0 := hr3.frozen 0
            have n0 := hr3.cell0
            have n1 := (hr3.set0 (.slice A2 n2 c2)).cell1
            have n2' := ((hr3.set0 (.slice A2 n2 c2)).set1 (.int .i64 a0)).cell2
            have n3 := (((hr3.set0 (.slice A2 n2 c2)).set1 (.int .i64 a0)).set2 (.int .i64 bl)).cell3
            have z1 := (hr3.set0 (.slice A2 n2 c2)).frozen 1
            have z2 := ((hr3.set0 (.slice A2 n2 c2)).set1 (.int .i64 a0)).frozen 2
            have z3 := (((hr3.set0 (.slice A2 n2 c2)).set1 (.int .i64 a0)).set2 (.int .i64 bl)).frozen 3
            have hr4 := ((((hr3.set0 (.slice A2 n2 c2)).set1 (.int .i64 a0)).set2 (.int .i64 bl)).set3 (.int .i64 (i : Int)))
            have x0 := hr4.cell0
            have x1 := hr4.cell1
            have x2 := hr4.cell2
            have x3 := hr4.cell3
            clear ht3 hr3 hr4
            go_wp2_with fail
            refine bodyPost_ret (v := .agg #[.slice A2 n2 c2, .int .i64 a0, .int .i64 bl, .int .i64 (i : Int)]) (by simp [results, Try.results102, go_sem, x0, x1, x2, x3]) rfl ⟨.slice A2 n2 c2, by rw [← HF.out], ?_, ?_⟩
            · rw [← HF.out]
              exact Own.mono (((((ow1.kept (grown_cs _ (w.heap.size + 1 + 1 + 1) 3 (.int .i64 (i : Int))) HAp.out.or).setBelow (a := ⟨(w.heap.size + 1), 0, none⟩) (by show (w.heap.size + 1) < (w.heap.size + 1 + 1); omega) ((.slice A2 n2 c2))).setBelow (a := ⟨(w.heap.size + 1), 1, none⟩) (by show (w.heap.size + 1) < (w.heap.size + 1 + 1); omega) (.int .i64 a0)).setBelow (a := ⟨(w.heap.size + 1), 2, none⟩) (by show (w.heap.size + 1) < (w.heap.size + 1 + 1); omega) (.int .i64 bl)).setBelow (a := ⟨(w.heap.size + 1), 3, none⟩) (by show (w.heap.size + 1) < (w.heap.size + 1 + 1); omega) (.int .i64 (i : Int))) (by omega)
            · exact (bst (bst (bst (bst (bst hb1 (p := ⟨(w.heap.size + 1 + 1 + 1), 3, none⟩) (by show w.heap.size ≤ (w.heap.size + 1 + 1 + 1); omega) (.int .i64 (i : Int))) (p := ⟨(w.heap.size + 1), 0, none⟩) (by show w.heap.size ≤ (w.heap.size + 1); omega) ((.slice A2 n2 c2))) (p := ⟨(w.heap.size + 1), 1, none⟩) (by show w.heap.size ≤ (w.heap.size + 1); omega) (.int .i64 a0)) (p := ⟨(w.heap.size + 1), 2, none⟩) (by show w.heap.size ≤ (w.heap.size + 1); omega) (.int .i64 bl)) (p := ⟨(w.heap.size + 1), 3, none⟩) (by show w.heap.size ≤ (w.heap.size + 1); omega) (.int .i64 (i : Int)))
          · have hns : ¬ tyStop x ⟨a0, false, bl, ls⟩ 2 := by unfold tyStop; dsimp only; have := HQ.out; omega
            have t1 : decide (x.2.1 < a0 + 2) = false := decide_eq_false hs
            have t0 : decide (300 < a0 + 2) = false := decide_eq_false (by have := HQ.out; omega)
            have hF := HNx.out _ (tyStep_move (d := 2) (by simp [stepW]) (by decide) hns)
            unfold tyMove at hF
            dsimp only at hF
            clear hns
            rcases ff2 (a0 < x.2.2) (x.2.2 ≤ a0 + 2) with h | ⟨h, h2⟩ | ⟨h, h2⟩
            · have t2 : decide (a0 < x.2.2) = false := decide_eq_false h
              rw [if_neg (fun q => h q.1)] at hF
              rw [if_neg (by decide)] at hF
              have hle : a0 + 2 ≤ 300 := by obtain ⟨q1, q2, q3, q4, q5, q6, q7⟩ := HQ.out; omega
              have HLe := Lib.hid hle
              have HF := Lib.hid hF
              clear hle hF h hs
              go_wp2_with fail
              go_roundg (xs.length - (i + 1))
              case measure => rw [HG.out]; omega
              case rel =>
                obtain ⟨⟨p1, p2⟩, ⟨p3, p4⟩, p5⟩ := HP.out
                obtain ⟨q1, q2, q3, q4, q5, q6, q7⟩ := HQ.out
                have hle := HLe.out
                exact ⟨i + 1, ⟨a0 + 2, false, bl, ls⟩, (.slice A2 n2 c2), by omega, rfl, ⟨by dsimp only; omega, by dsimp only; omega, by dsimp only; omega, by dsimp only; omega, by dsimp only; omega⟩, HF.out, (ow1.kept (grown_cs _ (w.heap.size + 1 + 1 + 1) 1 (.int .i64 (a0 + 2))) HAp.out.or), HAp.out, (Ht.out |>.set1 (.int .i64 (a0 + 2))), (Hr.out |>.setOther (w.heap.size + 1 + 1 + 1) 1 (.int .i64 (a0 + 2)) (by omega)), (Hc.out |>.setOther (w.heap.size + 1 + 1 + 1) 1 (.int .i64 (a0 + 2)) (by omega)), (bst hb1 (p := ⟨(w.heap.size + 1 + 1 + 1), 1, none⟩) (by show w.heap.size ≤ (w.heap.size + 1 + 1 + 1); omega) (.int .i64 (a0 + 2))), by simp, by go_num⟩
            · have t2 : decide (a0 < x.2.2) = true := decide_eq_true h
              have t3 : decide (x.2.2 ≤ a0 + 2) = false := decide_eq_false h2
              rw [if_neg (fun q => h2 q.2)] at hF
              rw [if_neg (by decide)] at hF
              have hle : a0 + 2 ≤ 300 := by obtain ⟨q1, q2, q3, q4, q5, q6, q7⟩ := HQ.out; omega
              have HLe := Lib.hid hle
              have HF := Lib.hid hF
              clear hle hF h h2 hs
              go_wp2_with fail
              go_roundg (xs.length - (i + 1))
              case measure => rw [HG.out]; omega
              case rel =>
                obtain ⟨⟨p1, p2⟩, ⟨p3, p4⟩, p5⟩ := HP.out
                obtain ⟨q1, q2, q3, q4, q5, q6, q7⟩ := HQ.out
                have hle := HLe.out
                exact ⟨i + 1, ⟨a0 + 2, false, bl, ls⟩, (.slice A2 n2 c2), by omega, rfl, ⟨by dsimp only; omega, by dsimp only; omega, by dsimp only; omega, by dsimp only; omega, by dsimp only; omega⟩, HF.out, (ow1.kept (grown_cs _ (w.heap.size + 1 + 1 + 1) 1 (.int .i64 (a0 + 2))) HAp.out.or), HAp.out, (Ht.out |>.set1 (.int .i64 (a0 + 2))), (Hr.out |>.setOther (w.heap.size + 1 + 1 + 1) 1 (.int .i64 (a0 + 2)) (by omega)), (Hc.out |>.setOther (w.heap.size + 1 + 1 + 1) 1 (.int .i64 (a0 + 2)) (by omega)), (bst hb1 (p := ⟨(w.heap.size + 1 + 1 + 1), 1, none⟩) (by show w.heap.size ≤ (w.heap.size + 1 + 1 + 1); omega) (.int .i64 (a0 + 2))), by simp, by go_num⟩
            · have t2 : decide (a0 < x.2.2) = true := decide_eq_true h
              have t3 : decide (x.2.2 ≤ a0 + 2) = true := decide_eq_true h2
              rw [if_pos ⟨h, h2⟩] at hF
              rw [if_neg (by decide)] at hF
              have hle : a0 + 2 ≤ 300 := by obtain ⟨q1, q2, q3, q4, q5, q6, q7⟩ := HQ.out; omega
              have HLe := Lib.hid hle
              have HF := Lib.hid hF
              clear hle hF h h2 hs
              have fz := (Ht.out.set2 (.int .i64 (bl + 1))).frozen 1
              go_wp2_with fail
              go_roundg (xs.length - (i + 1))
              case measure => rw [HG.out]; omega
              case rel =>
                obtain ⟨⟨p1, p2⟩, ⟨p3, p4⟩, p5⟩ := HP.out
                obtain ⟨q1, q2, q3, q4, q5, q6, q7⟩ := HQ.out
                have hle := HLe.out
                exact ⟨i + 1, ⟨a0 + 2, false, bl + 1, ls⟩, (.slice A2 n2 c2), by omega, rfl, ⟨by dsimp only; omega, by dsimp only; omega, by dsimp only; omega, by dsimp only; omega, by dsimp only; omega⟩, HF.out, ((ow1.kept (grown_cs _ (w.heap.size + 1 + 1 + 1) 2 (.int .i64 (bl + 1))) HAp.out.or).kept (grown_cs _ (w.heap.size + 1 + 1 + 1) 1 (.int .i64 (a0 + 2))) HAp.out.or), HAp.out, (Ht.out |>.set2 (.int .i64 (bl + 1)) |>.set1 (.int .i64 (a0 + 2))), (Hr.out |>.setOther (w.heap.size + 1 + 1 + 1) 2 (.int .i64 (bl + 1)) (by omega) |>.setOther (w.heap.size + 1 + 1 + 1) 1 (.int .i64 (a0 + 2)) (by omega)), (Hc.out |>.setOther (w.heap.size + 1 + 1 + 1) 2 (.int .i64 (bl + 1)) (by omega) |>.setOther (w.heap.size + 1 + 1 + 1) 1 (.int .i64 (a0 + 2)) (by omega)), (bst (bst hb1 (p := ⟨(w.heap.size + 1 + 1 + 1), 2, none⟩) (by show w.heap.size ≤ (w.heap.size + 1 + 1 + 1); omega) (.int .i64 (bl + 1))) (p := ⟨(w.heap.size + 1 + 1 + 1), 1, none⟩) (by show w.heap.size ≤ (w.heap.size + 1 + 1 + 1); omega) (.int .i64 (a0 + 2))), by simp, by go_num⟩
        | true =>
          by_cases hs : 300 < a0 + 2
          · have hF := HSt.out (tyStep_stop (d := 2) (by simp [stepW]) (by decide) (by unfold tyStop; exact .inr hs))
            have t1 : decide (300 < a0 + 2) = true := decide_eq_true hs
            clear hs
            have HF := Lib.hid hF
            clear hF
            have ht3 := Ht.out.set3 (.int .i64 (i : Int))
            have e0 := ht3.cell0
            have e1 := ht3.cell1
            have e2 := ht3.cell2
            have e3 := ht3.cell3
            have hr3 := Hr.out.setOther (w.heap.size + 1 + 1 + 1) 3 (.int .i64 (i : Int)) (by omega)
            have z0 := hr3.frozen 0
            have n0 := hr3.cell0
            have n1 := (hr3.set0 (.slice A2 n2 c2)).cell1
            have n2' := ((hr3.set0 (.slice A2 n2 c2)).set1 (.int .i64 a0)).cell2
            have n3 := (((hr3.set0 (.slice A2 n2 c2)).set1 (.int .i64 a0)).set2 (.int .i64 bl)).cell3
            have z1 := (hr3.set0 (.slice A2 n2 c2)).frozen 1
            have z2 := ((hr3.set0 (.slice A2 n2 c2)).set1 (.int .i64 a0)).frozen 2
            have z3 := (((hr3.set0 (.slice A2 n2 c2)).set1 (.int .i64 a0)).set2 (.int .i64 bl)).frozen 3
            have hr4 := ((((hr3.set0 (.slice A2 n2 c2)).set1 (.int .i64 a0)).set2 (.int .i64 bl)).set3 (.int .i64 (i : Int)))
            have x0 := hr4.cell0
            have x1 := hr4.cell1
            have x2 := hr4.cell2
            have x3 := hr4.cell3
            clear ht3 hr3 hr4
            go_wp2_with fail
            refine bodyPost_ret (v := .agg #[.slice A2 n2 c2, .int .i64 a0, .int .i64 bl, .int .i64 (i : Int)]) (by simp [results, Try.results102, go_sem, x0, x1, x2, x3]) rfl ⟨.slice A2 n2 c2, by rw [← HF.out], ?_, ?_⟩
            · rw [← HF.out]
              exact Own.mono (((((ow1.kept (grown_cs _ (w.heap.size + 1 + 1 + 1) 3 (.int .i64 (i : Int))) HAp.out.or).setBelow (a := ⟨(w.heap.size + 1), 0, none⟩) (by show (w.heap.size + 1) < (w.heap.size + 1 + 1); omega) ((.slice A2 n2 c2))).setBelow (a := ⟨(w.heap.size + 1), 1, none⟩) (by show (w.heap.size + 1) < (w.heap.size + 1 + 1); omega) (.int .i64 a0)).setBelow (a := ⟨(w.heap.size + 1), 2, none⟩) (by show (w.heap.size + 1) < (w.heap.size + 1 + 1); omega) (.int .i64 bl)).setBelow (a := ⟨(w.heap.size + 1), 3, none⟩) (by show (w.heap.size + 1) < (w.heap.size + 1 + 1); omega) (.int .i64 (i : Int))) (by omega)
            · exact (bst (bst (bst (bst (bst hb1 (p := ⟨(w.heap.size + 1 + 1 + 1), 3, none⟩) (by show w.heap.size ≤ (w.heap.size + 1 + 1 + 1); omega) (.int .i64 (i : Int))) (p := ⟨(w.heap.size + 1), 0, none⟩) (by show w.heap.size ≤ (w.heap.size + 1); omega) ((.slice A2 n2 c2))) (p := ⟨(w.heap.size + 1), 1, none⟩) (by show w.heap.size ≤ (w.heap.size + 1); omega) (.int .i64 a0)) (p := ⟨(w.heap.size + 1), 2, none⟩) (by show w.heap.size ≤ (w.heap.size + 1); omega) (.int .i64 bl)) (p := ⟨(w.heap.size + 1), 3, none⟩) (by show w.heap.size ≤ (w.heap.size + 1); omega) (.int .i64 (i : Int)))
          · have hns : ¬ tyStop x ⟨a0, true, bl, ls⟩ 2 := by unfold tyStop; dsimp only; simp; omega
            have t0 : decide (300 < a0 + 2) = false := decide_eq_false (by have := HQ.out; omega)
            have hF := HNx.out _ (tyStep_move (d := 2) (by simp [stepW]) (by decide) hns)
            unfold tyMove at hF
            dsimp only at hF
            clear hns
            rcases ff2 (a0 < x.2.2) (x.2.2 ≤ a0 + 2) with h | ⟨h, h2⟩ | ⟨h, h2⟩
            · have t2 : decide (a0 < x.2.2) = false := decide_eq_false h
              rw [if_neg (fun q => h q.1)] at hF
              rw [if_neg (by decide)] at hF
              have hle : a0 + 2 ≤ 300 := by obtain ⟨q1, q2, q3, q4, q5, q6, q7⟩ := HQ.out; omega
              have HLe := Lib.hid hle
              have HF := Lib.hid hF
              clear hle hF h hs
              go_wp2_with fail
              go_roundg (xs.length - (i + 1))
              case measure => rw [HG.out]; omega
              case rel =>
                obtain ⟨⟨p1, p2⟩, ⟨p3, p4⟩, p5⟩ := HP.out
                obtain ⟨q1, q2, q3, q4, q5, q6, q7⟩ := HQ.out
                have hle := HLe.out
                exact ⟨i + 1, ⟨a0 + 2, true, bl, ls⟩, (.slice A2 n2 c2), by omega, rfl, ⟨by dsimp only; omega, by dsimp only; omega, by dsimp only; omega, by dsimp only; omega, by dsimp only; omega⟩, HF.out, (ow1.kept (grown_cs _ (w.heap.size + 1 + 1 + 1) 1 (.int .i64 (a0 + 2))) HAp.out.or), HAp.out, (Ht.out |>.set1 (.int .i64 (a0 + 2))), (Hr.out |>.setOther (w.heap.size + 1 + 1 + 1) 1 (.int .i64 (a0 + 2)) (by omega)), (Hc.out |>.setOther (w.heap.size + 1 + 1 + 1) 1 (.int .i64 (a0 + 2)) (by omega)), (bst hb1 (p := ⟨(w.heap.size + 1 + 1 + 1), 1, none⟩) (by show w.heap.size ≤ (w.heap.size + 1 + 1 + 1); omega) (.int .i64 (a0 + 2))), by simp, by go_num⟩
            · have t2 : decide (a0 < x.2.2) = true := decide_eq_true h
              have t3 : decide (x.2.2 ≤ a0 + 2) = false := decide_eq_false h2
              rw [if_neg (fun q => h2 q.2)] at hF
              rw [if_neg (by decide)] at hF
              have hle : a0 + 2 ≤ 300 := by obtain ⟨q1, q2, q3, q4, q5, q6, q7⟩ := HQ.out; omega
              have HLe := Lib.hid hle
              have HF := Lib.hid hF
              clear hle hF h h2 hs
              go_wp2_with fail
              go_roundg (xs.length - (i + 1))
              case measure => rw [HG.out]; omega
              case rel =>
                obtain ⟨⟨p1, p2⟩, ⟨p3, p4⟩, p5⟩ := HP.out
                obtain ⟨q1, q2, q3, q4, q5, q6, q7⟩ := HQ.out
                have hle := HLe.out
                exact ⟨i + 1, ⟨a0 + 2, true, bl, ls⟩, (.slice A2 n2 c2), by omega, rfl, ⟨by dsimp only; omega, by dsimp only; omega, by dsimp only; omega, by dsimp only; omega, by dsimp only; omega⟩, HF.out, (ow1.kept (grown_cs _ (w.heap.size + 1 + 1 + 1) 1 (.int .i64 (a0 + 2))) HAp.out.or), HAp.out, (Ht.out |>.set1 (.int .i64 (a0 + 2))), (Hr.out |>.setOther (w.heap.size + 1 + 1 + 1) 1 (.int .i64 (a0 + 2)) (by omega)), (Hc.out |>.setOther (w.heap.size + 1 + 1 + 1) 1 (.int .i64 (a0 + 2)) (by omega)), (bst hb1 (p := ⟨(w.heap.size + 1 + 1 + 1), 1, none⟩) (by show w.heap.size ≤ (w.heap.size + 1 + 1 + 1); omega) (.int .i64 (a0 + 2))), by simp, by go_num⟩
            · have t2 : decide (a0 < x.2.2) = true := decide_eq_true h
              have t3 : decide (x.2.2 ≤ a0 + 2) = true := decide_eq_true h2
              rw [if_pos ⟨h, h2⟩] at hF
              rw [if_neg (by decide)] at hF
              have hle : a0 + 2 ≤ 300 := by obtain ⟨q1, q2, q3, q4, q5, q6, q7⟩ := HQ.out; omega
              have HLe := Lib.hid hle
              have HF := Lib.hid hF
              clear hle hF h h2 hs
              have fz := (Ht.out.set2 (.int .i64 (bl + 1))).frozen 1
              go_wp2_with fail
              go_roundg (xs.length - (i + 1))
              case measure => rw [HG.out]; omega
              case rel =>
                obtain ⟨⟨p1, p2⟩, ⟨p3, p4⟩, p5⟩ := HP.out
                obtain ⟨q1, q2, q3, q4, q5, q6, q7⟩ := HQ.out
                have hle := HLe.out
                exact ⟨i + 1, ⟨a0 + 2, true, bl + 1, ls⟩, (.slice A2 n2 c2), by omega, rfl, ⟨by dsimp only; omega, by dsimp only; omega, by dsimp only; omega, by dsimp only; omega, by dsimp only; omega⟩, HF.out, ((ow1.kept (grown_cs _ (w.heap.size + 1 + 1 + 1) 2 (.int .i64 (bl + 1))) HAp.out.or).kept (grown_cs _ (w.heap.size + 1 + 1 + 1) 1 (.int .i64 (a0 + 2))) HAp.out.or), HAp.out, (Ht.out |>.set2 (.int .i64 (bl + 1)) |>.set1 (.int .i64 (a0 + 2))), (Hr.out |>.setOther (w.heap.size + 1 + 1 + 1) 2 (.int .i64 (bl + 1)) (by omega) |>.setOther (w.heap.size + 1 + 1 + 1) 1 (.int .i64 (a0 + 2)) (by omega)), (Hc.out |>.setOther (w.heap.size + 1 + 1 + 1) 2 (.int .i64 (bl + 1)) (by omega) |>.setOther (w.heap.size + 1 + 1 + 1) 1 (.int .i64 (a0 + 2)) (by omega)), (bst (bst hb1 (p := ⟨(w.heap.size + 1 + 1 + 1), 2, none⟩) (by show w.heap.size ≤ (w.heap.size + 1 + 1 + 1); omega) (.int .i64 (bl + 1))) (p := ⟨(w.heap.size + 1 + 1 + 1), 1, none⟩) (by show w.heap.size ≤ (w.heap.size + 1 + 1 + 1); omega) (.int .i64 (a0 + 2))), by simp, by go_num⟩
      · by_cases hm : 0 ≤ a0 - 2
        · have hF := HNx.out ⟨max (a0 - 2) 0, fr, bl, ls⟩ (tyStep_still (by simp [stepW]))
          have hm2 : 0 ≤ a0 - 2 := by omega
          have hmm : max (a0 - 2) 0 = (a0 - 2) := by omega
          rw [hmm] at hF
          have HF := Lib.hid hF
          have HM2 := Lib.hid hm2
          clear hm2 hF hmm
          go_wp2_with fail
          go_roundg (xs.length - (i + 1))
          case measure => rw [HG.out]; omega
          case rel =>
            obtain ⟨⟨p1, p2⟩, ⟨p3, p4⟩, p5⟩ := HP.out
            obtain ⟨q1, q2, q3, q4, q5, q6, q7⟩ := HQ.out
            have := HM2.out
            exact ⟨i + 1, ⟨(a0 - 2), fr, bl, ls⟩, (.slice A2 n2 c2), by omega, rfl, ⟨by dsimp only; omega, by dsimp only; omega, by dsimp only; omega, by dsimp only; omega, by dsimp only; omega⟩, HF.out, (ow1.kept (grown_cs _ (w.heap.size + 1 + 1 + 1) 1 (.int .i64 (a0 - 2))) HAp.out.or), HAp.out, (Ht.out |>.set1 (.int .i64 (a0 - 2))), (Hr.out |>.setOther (w.heap.size + 1 + 1 + 1) 1 (.int .i64 (a0 - 2)) (by omega)), (Hc.out |>.setOther (w.heap.size + 1 + 1 + 1) 1 (.int .i64 (a0 - 2)) (by omega)), (bst hb1 (p := ⟨(w.heap.size + 1 + 1 + 1), 1, none⟩) (by show w.heap.size ≤ (w.heap.size + 1 + 1 + 1); omega) (.int .i64 (a0 - 2))), by simp, by go_num⟩
        · have hF := HNx.out ⟨max (a0 - 2) 0, fr, bl, ls⟩ (tyStep_still (by simp [stepW]))
          have hm2 : a0 - 2 ≤ 0 := by omega
          have hmm : max (a0 - 2) 0 = 0 := by omega
          rw [hmm] at hF
          have HF := Lib.hid hF
          have HM2 := Lib.hid hm2
          clear hm2 hF hmm
          go_wp2_with fail
          go_roundg (xs.length - (i + 1))
          case measure => rw [HG.out]; omega
          case rel =>
            obtain ⟨⟨p1, p2⟩, ⟨p3, p4⟩, p5⟩ := HP.out
            obtain ⟨q1, q2, q3, q4, q5, q6, q7⟩ := HQ.out
            have := HM2.out
            exact ⟨i + 1, ⟨0, fr, bl, ls⟩, (.slice A2 n2 c2), by omega, rfl, ⟨by dsimp only; omega, by dsimp only; omega, by dsimp only; omega, by dsimp only; omega, by dsimp only; omega⟩, HF.out, (ow1.kept (grown_cs _ (w.heap.size + 1 + 1 + 1) 1 (.int .i64 0)) HAp.out.or), HAp.out, (Ht.out |>.set1 (.int .i64 0)), (Hr.out |>.setOther (w.heap.size + 1 + 1 + 1) 1 (.int .i64 0) (by omega)), (Hc.out |>.setOther (w.heap.size + 1 + 1 + 1) 1 (.int .i64 0) (by omega)), (bst hb1 (p := ⟨(w.heap.size + 1 + 1 + 1), 1, none⟩) (by show w.heap.size ≤ (w.heap.size + 1 + 1 + 1); omega) (.int .i64 0)), by simp, by go_num⟩
      · cases fr with
        | false =>
          by_cases hs : x.2.1 < a0 + 1
          · have hF := HSt.out (tyStep_stop (d := 1) (by simp [stepW]) (by decide) (by unfold tyStop; exact .inl ⟨rfl, hs⟩))
            have t1 : decide (x.2.1 < a0 + 1) = true := decide_eq_true hs
            clear hs
            have HF := Lib.hid hF
            clear hF
            have ht3 := Ht.out.set3 (.int .i64 (i : Int))
            have e0 := ht3.cell0
            have e1 := ht3.cell1
            have e2 := ht3.cell2
            have e3 := ht3.cell3
            have hr3 := Hr.out.setOther (w.heap.size + 1 + 1 + 1) 3 (.int .i64 (i : Int)) (by omega)
            have z0 := hr3.frozen 0
            have n0 := hr3.cell0
            have n1 := (hr3.set0 (.slice A2 n2 c2)).cell1
            have n2' := ((hr3.set0 (.slice A2 n2 c2)).set1 (.int .i64 a0)).cell2
            have n3 := (((hr3.set0 (.slice A2 n2 c2)).set1 (.int .i64 a0)).set2 (.int .i64 bl)).cell3
            have z1 := (hr3.set0 (.slice A2 n2 c2)).frozen 1
            have z2 := ((hr3.set0 (.slice A2 n2 c2)).set1 (.int .i64 a0)).frozen 2
            have z3 := (((hr3.set0 (.slice A2 n2 c2)).set1 (.int .i64 a0)).set2 (.int .i64 bl)).frozen 3
            have hr4 := ((((hr3.set0 (.slice A2 n2 c2)).set1 (.int .i64 a0)).set2 (.int .i64 bl)).set3 (.int .i64 (i : Int)))
            have x0 := hr4.cell0
            have x1 := hr4.cell1
            have x2 := hr4.cell2
            have x3 := hr4.cell3
            clear ht3 hr3 hr4
            go_wp2_with fail
            refine bodyPost_ret (v := .agg #[.slice A2 n2 c2, .int .i64 a0, .int .i64 bl, .int .i64 (i : Int)]) (by simp [results, Try.results102, go_sem, x0, x1, x2, x3]) rfl ⟨.slice A2 n2 c2, by rw [← HF.out], ?_, ?_⟩
            · rw [← HF.out]
              exact Own.mono (((((ow1.kept (grown_cs _ (w.heap.size + 1 + 1 + 1) 3 (.int .i64 (i : Int))) HAp.out.or).setBelow (a := ⟨(w.heap.size + 1), 0, none⟩) (by show (w.heap.size + 1) < (w.heap.size + 1 + 1); omega) ((.slice A2 n2 c2))).setBelow (a := ⟨(w.heap.size + 1), 1, none⟩) (by show (w.heap.size + 1) < (w.heap.size + 1 + 1); omega) (.int .i64 a0)).setBelow (a := ⟨(w.heap.size + 1), 2, none⟩) (by show (w.heap.size + 1) < (w.heap.size + 1 + 1); omega) (.int .i64 bl)).setBelow (a := ⟨(w.heap.size + 1), 3, none⟩) (by show (w.heap.size + 1) < (w.heap.size + 1 + 1); omega) (.int .i64 (i : Int))) (by omega)
            · exact (bst (bst (bst (bst (bst hb1 (p := ⟨(w.heap.size + 1 + 1 + 1), 3, none⟩) (by show w.heap.size ≤ (w.heap.size + 1 + 1 + 1); omega) (.int .i64 (i : Int))) (p := ⟨(w.heap.size + 1), 0, none⟩) (by show w.heap.size ≤ (w.heap.size + 1); omega) ((.slice A2 n2 c2))) (p := ⟨(w.heap.size + 1), 1, none⟩) (by show w.heap.size ≤ (w.heap.size + 1); omega) (.int .i64 a0)) (p := ⟨(w.heap.size + 1), 2, none⟩) (by show w.heap.size ≤ (w.heap.size + 1); omega) (.int .i64 bl)) (p := ⟨(w.heap.size + 1), 3, none⟩) (by show w.heap.size ≤ (w.heap.size + 1); omega) (.int .i64 (i : Int)))
          · have hns : ¬ tyStop x ⟨a0, false, bl, ls⟩ 1 := by unfold tyStop; dsimp only; have := HQ.out; omega
            have t1 : decide (x.2.1 < a0 + 1) = false := decide_eq_false hs
            have t0 : decide (300 < a0 + 1) = false := decide_eq_false (by have := HQ.out; omega)
            have hF := HNx.out _ (tyStep_move (d := 1) (by simp [stepW]) (by decide) hns)
            unfold tyMove at hF
            dsimp only at hF
            clear hns
            rcases ff2 (a0 < x.2.2) (x.2.2 ≤ a0 + 1) with h | ⟨h, h2⟩ | ⟨h, h2⟩
            · have t2 : decide (a0 < x.2.2) = false := decide_eq_false h
              rw [if_neg (fun q => h q.1)] at hF
              rw [if_neg (by decide)] at hF
              have hle : a0 + 1 ≤ 300 := by obtain ⟨q1, q2, q3, q4, q5, q6, q7⟩ := HQ.out; omega
              have HLe := Lib.hid hle
              have HF := Lib.hid hF
              clear hle hF h hs
              go_wp2_with fail
              go_roundg (xs.length - (i + 1))
              case measure => rw [HG.out]; omega
              case rel =>
                obtain ⟨⟨p1, p2⟩, ⟨p3, p4⟩, p5⟩ := HP.out
                obtain ⟨q1, q2, q3, q4, q5, q6, q7⟩ := HQ.out
                have hle := HLe.out
                exact ⟨i + 1, ⟨a0 + 1, false, bl, ls⟩, (.slice A2 n2 c2), by omega, rfl, ⟨by dsimp only; omega, by dsimp only; omega, by dsimp only; omega, by dsimp only; omega, by dsimp only; omega⟩, HF.out, (ow1.kept (grown_cs _ (w.heap.size + 1 + 1 + 1) 1 (.int .i64 (a0 + 1))) HAp.out.or), HAp.out, (Ht.out |>.set1 (.int .i64 (a0 + 1))), (Hr.out |>.setOther (w.heap.size + 1 + 1 + 1) 1 (.int .i64 (a0 + 1)) (by omega)), (Hc.out |>.setOther (w.heap.size + 1 + 1 + 1) 1 (.int .i64 (a0 + 1)) (by omega)), (bst hb1 (p := ⟨(w.heap.size + 1 + 1 + 1), 1, none⟩) (by show w.heap.size ≤ (w.heap.size + 1 + 1 + 1); omega) (.int .i64 (a0 + 1))), by simp, by go_num⟩
            · have t2 : decide (a0 < x.2.2) = true := decide_eq_true h
              have t3 : decide (x.2.2 ≤ a0 + 1) = false := decide_eq_false h2
              rw [if_neg (fun q => h2 q.2)] at hF
              rw [if_neg (by decide)] at hF
              have hle : a0 + 1 ≤ 300 := by obtain ⟨q1, q2, q3, q4, q5, q6, q7⟩ := HQ.out; omega
              have HLe := Lib.hid hle
              have HF := Lib.hid hF
              clear hle hF h h2 hs
              go_wp2_with fail
              go_roundg (xs.length - (i + 1))
              case measure => rw [HG.out]; omega
              case rel =>
                obtain ⟨⟨p1, p2⟩, ⟨p3, p4⟩, p5⟩ := HP.out
                obtain ⟨q1, q2, q3, q4, q5, q6, q7⟩ := HQ.out
                have hle := HLe.out
                exact ⟨i + 1, ⟨a0 + 1, false, bl, ls⟩, (.slice A2 n2 c2), by omega, rfl, ⟨by dsimp only; omega, by dsimp only; omega, by dsimp only; omega, by dsimp only; omega, by dsimp only; omega⟩, HF.out, (ow1.kept (grown_cs _ (w.heap.size + 1 + 1 + 1) 1 (.int .i64 (a0 + 1))) HAp.out.or), HAp.out, (Ht.out |>.set1 (.int .i64 (a0 + 1))), (Hr.out |>.setOther (w.heap.size + 1 + 1 + 1) 1 (.int .i64 (a0 + 1)) (by omega)), (Hc.out |>.setOther (w.heap.size + 1 + 1 + 1) 1 (.int .i64 (a0 + 1)) (by omega)), (bst hb1 (p := ⟨(w.heap.size + 1 + 1 + 1), 1, none⟩) (by show w.heap.size ≤ (w.heap.size + 1 + 1 + 1); omega) (.int .i64 (a0 + 1))), by simp, by go_num⟩
            · have t2 : decide (a0 < x.2.2) = true := decide_eq_true h
              have t3 : decide (x.2.2 ≤ a0 + 1) = true := decide_eq_true h2
              rw [if_pos ⟨h, h2⟩] at hF
              rw [if_neg (by decide)] at hF
              have hle : a0 + 1 ≤ 300 := by obtain ⟨q1, q2, q3, q4, q5, q6, q7⟩ := HQ.out; omega
              have HLe := Lib.hid hle
              have HF := Lib.hid hF
              clear hle hF h h2 hs
              have fz := (Ht.out.set2 (.int .i64 (bl + 1))).frozen 1
              go_wp2_with fail
              go_roundg (xs.length - (i + 1))
              case measure => rw [HG.out]; omega
              case rel =>
                obtain ⟨⟨p1, p2⟩, ⟨p3, p4⟩, p5⟩ := HP.out
                obtain ⟨q1, q2, q3, q4, q5, q6, q7⟩ := HQ.out
                have hle := HLe.out
                exact ⟨i + 1, ⟨a0 + 1, false, bl + 1, ls⟩, (.slice A2 n2 c2), by omega, rfl, ⟨by dsimp only; omega, by dsimp only; omega, by dsimp only; omega, by dsimp only; omega, by dsimp only; omega⟩, HF.out, ((ow1.kept (grown_cs _ (w.heap.size + 1 + 1 + 1) 2 (.int .i64 (bl + 1))) HAp.out.or).kept (grown_cs _ (w.heap.size + 1 + 1 + 1) 1 (.int .i64 (a0 + 1))) HAp.out.or), HAp.out, (Ht.out |>.set2 (.int .i64 (bl + 1)) |>.set1 (.int .i64 (a0 + 1))), (Hr.out |>.setOther (w.heap.size + 1 + 1 + 1) 2 (.int .i64 (bl + 1)) (by omega) |>.setOther (w.heap.size + 1 + 1 + 1) 1 (.int .i64 (a0 + 1)) (by omega)), (Hc.out |>.setOther (w.heap.size + 1 + 1 + 1) 2 (.int .i64 (bl + 1)) (by omega) |>.setOther (w.heap.size + 1 + 1 + 1) 1 (.int .i64 (a0 + 1)) (by omega)), (bst (bst hb1 (p := ⟨(w.heap.size + 1 + 1 + 1), 2, none⟩) (by show w.heap.size ≤ (w.heap.size + 1 + 1 + 1); omega) (.int .i64 (bl + 1))) (p := ⟨(w.heap.size + 1 + 1 + 1), 1, none⟩) (by show w.heap.size ≤ (w.heap.size + 1 + 1 + 1); omega) (.int .i64 (a0 + 1))), by simp, by go_num⟩
        | true =>
          by_cases hs : 300 < a0 + 1
          · have hF := HSt.out (tyStep_stop (d := 1) (by simp [stepW]) (by decide) (by unfold tyStop; exact .inr hs))
            have t1 : decide (300 < a0 + 1) = true := decide_eq_true hs
            clear hs
            have HF := Lib.hid hF
            clear hF
            have ht3 := Ht.out.set3 (.int .i64 (i : Int))
            have e0 := ht3.cell0
            have e1 := ht3.cell1
            have e2 := ht3.cell2
            have e3 := ht3.cell3
            have hr3 := Hr.out.setOther (w.heap.size + 1 + 1 + 1) 3 (.int .i64 (i : Int)) (by omega)
            have z0 := hr3.frozen 0
            have n0 := hr3.cell0
            have n1 := (hr3.set0 (.slice A2 n2 c2)).cell1
            have n2' := ((hr3.set0 (.slice A2 n2 c2)).set1 (.int .i64 a0)).cell2
            have n3 := (((hr3.set0 (.slice A2 n2 c2)).set1 (.int .i64 a0)).set2 (.int .i64 bl)).cell3
            have z1 := (hr3.set0 (.slice A2 n2 c2)).frozen 1
            have z2 := ((hr3.set0 (.slice A2 n2 c2)).set1 (.int .i64 a0)).frozen 2
            have z3 := (((hr3.set0 (.slice A2 n2 c2)).set1 (.int .i64 a0)).set2 (.int .i64 bl)).frozen 3
            have hr4 := ((((hr3.set0 (.slice A2 n2 c2)).set1 (.int .i64 a0)).set2 (.int .i64 bl)).set3 (.int .i64 (i : Int)))
            have x0 := hr4.cell0
            have x1 := hr4.cell1
            have x2 := hr4.cell2
            have x3 := hr4.cell3
            clear ht3 hr3 hr4
            go_wp2_with fail
            refine bodyPost_ret (v := .agg #[.slice A2 n2 c2, .int .i64 a0, .int .i64 bl, .int .i64 (i : Int)]) (by simp [results, Try.results102, go_sem, x0, x1, x2, x3]) rfl ⟨.slice A2 n2 c2, by rw [← HF.out], ?_, ?_⟩
            · rw [← HF.out]
              exact Own.mono (((((ow1.kept (grown_cs _ (w.heap.size + 1 + 1 + 1) 3 (.int .i64 (i : Int))) HAp.out.or).setBelow (a := ⟨(w.heap.size + 1), 0, none⟩) (by show (w.heap.size + 1) < (w.heap.size + 1 + 1); omega) ((.slice A2 n2 c2))).setBelow (a := ⟨(w.heap.size + 1), 1, none⟩) (by show (w.heap.size + 1) < (w.heap.size + 1 + 1); omega) (.int .i64 a0)).setBelow (a := ⟨(w.heap.size + 1), 2, none⟩) (by show (w.heap.size + 1) < (w.heap.size + 1 + 1); omega) (.int .i64 bl)).setBelow (a := ⟨(w.heap.size + 1), 3, none⟩) (by show (w.heap.size + 1) < (w.heap.size + 1 + 1); omega) (.int .i64 (i : Int))) (by omega)
            · exact (bst (bst (bst (bst (bst hb1 (p := ⟨(w.heap.size + 1 + 1 + 1), 3, none⟩) (by show w.heap.size ≤ (w.heap.size + 1 + 1 + 1); omega) (.int .i64 (i : Int))) (p := ⟨(w.heap.size + 1), 0, none⟩) (by show w.heap.size ≤ (w.heap.size + 1); omega) ((.slice A2 n2 c2))) (p := ⟨(w.heap.size + 1), 1, none⟩) (by show w.heap.size ≤ (w.heap.size + 1); omega) (.int .i64 a0)) (p := ⟨(w.heap.size + 1), 2, none⟩) (by show w.heap.size ≤ (w.heap.size + 1); omega) (.int .i64 bl)) (p := ⟨(w.heap.size + 1), 3, none⟩) (by show w.heap.size ≤ (w.heap.size + 1); omega) (.int .i64 (i : Int)))
          · have hns : ¬ tyStop x ⟨a0, true, bl, ls⟩ 1 := by unfold tyStop; dsimp only; simp; omega
            have t0 : decide (300 < a0 + 1) = false := decide_eq_false (by have := HQ.out; omega)
            have hF := HNx.out _ (tyStep_move (d := 1) (by simp [stepW]) (by decide) hns)
            unfold tyMove at hF
            dsimp only at hF
            clear hns
            rcases ff2 (a0 < x.2.2) (x.2.2 ≤ a0 + 1) with h | ⟨h, h2⟩ | ⟨h, h2⟩
            · have t2 : decide (a0 < x.2.2) = false := decide_eq_false h
              rw [if_neg (fun q => h q.1)] at hF
              rw [if_neg (by decide)] at hF
              have hle : a0 + 1 ≤ 300 := by obtain ⟨q1, q2, q3, q4, q5, q6, q7⟩ := HQ.out; omega
              have HLe := Lib.hid hle
              have HF := Lib.hid hF
              clear hle hF h hs
              go_wp2_with fail
              go_roundg (xs.length - (i + 1))
              case measure => rw [HG.out]; omega
              case rel =>
                obtain ⟨⟨p1, p2⟩, ⟨p3, p4⟩, p5⟩ := HP.out
                obtain ⟨q1, q2, q3, q4, q5, q6, q7⟩ := HQ.out
                have hle := HLe.out
                exact ⟨i + 1, ⟨a0 + 1, true, bl, ls⟩, (.slice A2 n2 c2), by omega, rfl, ⟨by dsimp only; omega, by dsimp only; omega, by dsimp only; omega, by dsimp only; omega, by dsimp only; omega⟩, HF.out, (ow1.kept (grown_cs _ (w.heap.size + 1 + 1 + 1) 1 (.int .i64 (a0 + 1))) HAp.out.or), HAp.out, (Ht.out |>.set1 (.int .i64 (a0 + 1))), (Hr.out |>.setOther (w.heap.size + 1 + 1 + 1) 1 (.int .i64 (a0 + 1)) (by omega)), (Hc.out |>.setOther (w.heap.size + 1 + 1 + 1) 1 (.int .i64 (a0 + 1)) (by omega)), (bst hb1 (p := ⟨(w.heap.size + 1 + 1 + 1), 1, none⟩) (by show w.heap.size ≤ (w.heap.size + 1 + 1 + 1); omega) (.int .i64 (a0 + 1))), by simp, by go_num⟩
            · have t2 : decide (a0 < x.2.2) = true := decide_eq_true h
              have t3 : decide (x.2.2 ≤ a0 + 1) = false := decide_eq_false h2
              rw [if_neg (fun q => h2 q.2)] at hF
              rw [if_neg (by decide)] at hF
              have hle : a0 + 1 ≤ 300 := by obtain ⟨q1, q2, q3, q4, q5, q6, q7⟩ := HQ.out; omega
              have HLe := Lib.hid hle
              have HF := Lib.hid hF
              clear hle hF h h2 hs
              go_wp2_with fail
              go_roundg (xs.length - (i + 1))
              case measure => rw [HG.out]; omega
              case rel =>
                obtain ⟨⟨p1, p2⟩, ⟨p3, p4⟩, p5⟩ := HP.out
                obtain ⟨q1, q2, q3, q4, q5, q6, q7⟩ := HQ.out
                have hle := HLe.out
                exact ⟨i + 1, ⟨a0 + 1, true, bl, ls⟩, (.slice A2 n2 c2), by omega, rfl, ⟨by dsimp only; omega, by dsimp only; omega, by dsimp only; omega, by dsimp only; omega, by dsimp only; omega⟩, HF.out, (ow1.kept (grown_cs _ (w.heap.size + 1 + 1 + 1) 1 (.int .i64 (a0 + 1))) HAp.out.or), HAp.out, (Ht.out |>.set1 (.int .i64 (a0 + 1))), (Hr.out |>.setOther (w.heap.size + 1 + 1 + 1) 1 (.int .i64 (a0 + 1)) (by omega)), (Hc.out |>.setOther (w.heap.size + 1 + 1 + 1) 1 (.int .i64 (a0 + 1)) (by omega)), (bst hb1 (p := ⟨(w.heap.size + 1 + 1 + 1), 1, none⟩) (by show w.heap.size ≤ (w.heap.size + 1 + 1 + 1); omega) (.int .i64 (a0 + 1))), by simp, by go_num⟩
            · have t2 : decide (a0 < x.2.2) = true := decide_eq_true h
              have t3 : decide (x.2.2 ≤ a0 + 1) = true := decide_eq_true h2
              rw [if_pos ⟨h, h2⟩] at hF
              rw [if_neg (by decide)] at hF
              have hle : a0 + 1 ≤ 300 := by obtain ⟨q1, q2, q3, q4, q5, q6, q7⟩ := HQ.out; omega
              have HLe := Lib.hid hle
              have HF := Lib.hid hF
              clear hle hF h h2 hs
              have fz := (Ht.out.set2 (.int .i64 (bl + 1))).frozen 1
              go_wp2_with fail
              go_roundg (xs.length - (i + 1))
              case measure => rw [HG.out]; omega
              case rel =>
                obtain ⟨⟨p1, p2⟩, ⟨p3, p4⟩, p5⟩ := HP.out
                obtain ⟨q1, q2, q3, q4, q5, q6, q7⟩ := HQ.out
                have hle := HLe.out
                exact ⟨i + 1, ⟨a0 + 1, true, bl + 1, ls⟩, (.slice A2 n2 c2), by omega, rfl, ⟨by dsimp only; omega, by dsimp only; omega, by dsimp only; omega, by dsimp only; omega, by dsimp only; omega⟩, HF.out, ((ow1.kept (grown_cs _ (w.heap.size + 1 + 1 + 1) 2 (.int .i64 (bl + 1))) HAp.out.or).kept (grown_cs _ (w.heap.size + 1 + 1 + 1) 1 (.int .i64 (a0 + 1))) HAp.out.or), HAp.out, (Ht.out |>.set2 (.int .i64 (bl + 1)) |>.set1 (.int .i64 (a0 + 1))), (Hr.out |>.setOther (w.heap.size + 1 + 1 + 1) 2 (.int .i64 (bl + 1)) (by omega) |>.setOther (w.heap.size + 1 + 1 + 1) 1 (.int .i64 (a0 + 1)) (by omega)), (Hc.out |>.setOther (w.heap.size + 1 + 1 + 1) 2 (.int .i64 (bl + 1)) (by omega) |>.setOther (w.heap.size + 1 + 1 + 1) 1 (.int .i64 (a0 + 1)) (by omega)), (bst (bst hb1 (p := ⟨(w.heap.size + 1 + 1 + 1), 2, none⟩) (by show w.heap.size ≤ (w.heap.size + 1 + 1 + 1); omega) (.int .i64 (bl + 1))) (p := ⟨(w.heap.size + 1 + 1 + 1), 1, none⟩) (by show w.heap.size ≤ (w.heap.size + 1 + 1 + 1); omega) (.int .i64 (a0 + 1))), by simp, by go_num⟩
      · have HF := Lib.hid (HNx.out ⟨a0, true, bl, ls⟩ (tyStep_still (by simp [stepW])))
        go_wp2_with fail
        go_roundg (xs.length - (i + 1))
        case measure => rw [HG.out]; omega
        case rel =>
          obtain ⟨⟨p1, p2⟩, ⟨p3, p4⟩, p5⟩ := HP.out
          obtain ⟨q1, q2, q3, q4, q5, q6, q7⟩ := HQ.out
          skip
          exact ⟨i + 1, ⟨a0, true, bl, ls⟩, (.slice A2 n2 c2), by omega, rfl, ⟨by dsimp only; omega, by dsimp only; omega, by dsimp only; omega, by dsimp only; omega, by dsimp only; omega⟩, HF.out, ow1, HAp.out, (Ht.out), (Hr.out), (Hc.out), hb1, by simp, by go_num⟩
      · have HF := Lib.hid (HNx.out ⟨x.1, false, bl, ls⟩ (tyStep_still (by simp [stepW])))
        go_wp2_with fail
        go_roundg (xs.length - (i + 1))
        case measure => rw [HG.out]; omega
        case rel =>
          obtain ⟨⟨p1, p2⟩, ⟨p3, p4⟩, p5⟩ := HP.out
          obtain ⟨q1, q2, q3, q4, q5, q6, q7⟩ := HQ.out
          skip
          exact ⟨i + 1, ⟨x.1, false, bl, ls⟩, (.slice A2 n2 c2), by omega, rfl, ⟨by dsimp only; omega, by dsimp only; omega, by dsimp only; omega, by dsimp only; omega, by dsimp only; omega⟩, HF.out, (ow1.kept (grown_cs _ (w.heap.size + 1 + 1 + 1) 1 (.int .i64 x.1)) HAp.out.or), HAp.out, (Ht.out |>.set1 (.int .i64 x.1)), (Hr.out |>.setOther (w.heap.size + 1 + 1 + 1) 1 (.int .i64 x.1) (by omega)), (Hc.out |>.setOther (w.heap.size + 1 + 1 + 1) 1 (.int .i64 x.1) (by omega)), (bst hb1 (p := ⟨(w.heap.size + 1 + 1 + 1), 1, none⟩) (by show w.heap.size ≤ (w.heap.size + 1 + 1 + 1); omega) (.int .i64 x.1)), by simp, by go_num⟩
    · have hfin := tyGo_end (c := x) (s := (⟨a0, fr, bl, ls⟩ : TySt)) hlt
      rw [hfin] at hgo
      have hF : ((⟨a0, fr, bl, ls⟩ : TySt), (-1 : Int)) = R := hgo
      clear hgo hfin p1 p2 p3 p4 p5
      have HF := Lib.hid hF
      clear hF
      have ht3 := ht
      have e0 := ht3.cell0
      have e1 := ht3.cell1
      have e2 := ht3.cell2
      have e3 := ht3.cell3
      have hr3 := hr
      have z0 := hr3.frozen 0
      have n0 := hr3.cell0
      have n1 := (hr3.set0 (.slice A2 n2 c2)).cell1
      have n2' := ((hr3.set0 (.slice A2 n2 c2)).set1 (.int .i64 a0)).cell2
      have n3 := (((hr3.set0 (.slice A2 n2 c2)).set1 (.int .i64 a0)).set2 (.int .i64 bl)).cell3
      have z1 := (hr3.set0 (.slice A2 n2 c2)).frozen 1
      have z2 := ((hr3.set0 (.slice A2 n2 c2)).set1 (.int .i64 a0)).frozen 2
      have z3 := (((hr3.set0 (.slice A2 n2 c2)).set1 (.int .i64 a0)).set2 (.int .i64 bl)).frozen 3
      have hr4 := ((((hr3.set0 (.slice A2 n2 c2)).set1 (.int .i64 a0)).set2 (.int .i64 bl)).set3 (.int .i64 (-1)))
      have x0 := hr4.cell0
      have x1 := hr4.cell1
      have x2 := hr4.cell2
      have x3 := hr4.cell3
      clear ht3 hr3 hr4
      go_wp2_with fail
      refine bodyPost_ret (v := .agg #[.slice A2 n2 c2, .int .i64 a0, .int .i64 bl, .int .i64 (-1)]) (by simp [results, Try.results102, go_sem, x0, x1, x2, x3]) rfl ⟨.slice A2 n2 c2, by rw [← HF.out], ?_, ?_⟩
      · rw [← HF.out]
        exact Own.mono ((((hown.setBelow (a := ⟨(w.heap.size + 1), 0, none⟩) (by show (w.heap.size + 1) < (w.heap.size + 1 + 1); omega) ((.slice A2 n2 c2))).setBelow (a := ⟨(w.heap.size + 1), 1, none⟩) (by show (w.heap.size + 1) < (w.heap.size + 1 + 1); omega) (.int .i64 a0)).setBelow (a := ⟨(w.heap.size + 1), 2, none⟩) (by show (w.heap.size + 1) < (w.heap.size + 1 + 1); omega) (.int .i64 bl)).setBelow (a := ⟨(w.heap.size + 1), 3, none⟩) (by show (w.heap.size + 1) < (w.heap.size + 1 + 1); omega) (.int .i64 (-1))) (by omega)
      · exact (bst (bst (bst (bst hbw (p := ⟨(w.heap.size + 1), 0, none⟩) (by show w.heap.size ≤ (w.heap.size + 1); omega) ((.slice A2 n2 c2))) (p := ⟨(w.heap.size + 1), 1, none⟩) (by show w.heap.size ≤ (w.heap.size + 1); omega) (.int .i64 a0)) (p := ⟨(w.heap.size + 1), 2, none⟩) (by show w.heap.size ≤ (w.heap.size + 1); omega) (.int .i64 bl)) (p := ⟨(w.heap.size + 1), 3, none⟩) (by show w.heap.size ≤ (w.heap.size + 1); omega) (.int .i64 (-1)))
end Go.Proofs.Yteepcnfpdmmnhaa
