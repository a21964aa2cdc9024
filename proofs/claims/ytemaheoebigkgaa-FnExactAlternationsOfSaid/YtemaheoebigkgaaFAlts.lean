/-
  FAlts: how often the hand changes within a text: spec and impl.
-/
import Derived.Test.YtemaheoebigkgaaFHands
namespace Go.Proofs.Ytemaheoebigkgaa
open Go.RowKit
set_option linter.unusedVariables false
attribute [local go_sem ↓] Go.wp_at_zero Go.wp_at_succ
/-- Two places of a text and of the board lie in memory. -/
abbrev Alt8 (w : World) (bP oP oQ b o1 o2 : Nat) (p q : Int) (x y : TPlace) : Prop := (bP < w.heap.size ∧ b < w.heap.size) ∧ w.cell? ⟨bP, oP, none⟩ = some (.int .i64 p) ∧ w.cell? ⟨bP, oQ, none⟩ = some (.int .i64 q) ∧
  (w.cell? ⟨b, o1, none⟩ = some (.int .i64 x.1) ∧ w.cell? ⟨b, o1 + 1, none⟩ = some (.int .i64 x.2.1) ∧ w.cell? ⟨b, o1 + 2, none⟩ = some (.int .i64 x.2.2)) ∧
  (w.cell? ⟨b, o2, none⟩ = some (.int .i64 y.1) ∧ w.cell? ⟨b, o2 + 1, none⟩ = some (.int .i64 y.2.1) ∧ w.cell? ⟨b, o2 + 2, none⟩ = some (.int .i64 y.2.2))
theorem Alt8.next {w w' : World} {bP oP oQ b o1 o2 : Nat} {p q : Int} {x y : TPlace} (h : Alt8 w bP oP oQ b o1 o2 p q x y) (hb : Below w.heap.size w w') : Alt8 w' bP oP oQ b o1 o2 p q x y := by
  obtain ⟨⟨h1, h2⟩, c0, c1, ⟨d0, d1, d2⟩, e0, e1, e2⟩ := h
  exact ⟨⟨Nat.lt_of_lt_of_le h1 hb.size, Nat.lt_of_lt_of_le h2 hb.size⟩, (hb.cell (p := ⟨bP, _, none⟩) h1).trans c0, (hb.cell (p := ⟨bP, _, none⟩) h1).trans c1,
    ⟨(hb.cell (p := ⟨b, _, none⟩) h2).trans d0, (hb.cell (p := ⟨b, _, none⟩) h2).trans d1, (hb.cell (p := ⟨b, _, none⟩) h2).trans d2⟩, (hb.cell (p := ⟨b, _, none⟩) h2).trans e0, (hb.cell (p := ⟨b, _, none⟩) h2).trans e1, (hb.cell (p := ⟨b, _, none⟩) h2).trans e2⟩
set_option maxHeartbeats 6400000 in
set_option maxRecDepth 10000 in
theorem impl_AlternationsOf_any (A : Option Addr) (c : Nat) (xs : List TPlace) (hx : xs.length ≤ 1048576) (hk : ∀ x ∈ xs, KPlace x) (lay : ByteArray) (hl : lay.size ≤ 1048576) (text : ByteArray) (ht : text.size ≤ 1048576) (w : World) (rx : Row w A encPlace 3 xs) :
    Calls Try.prog 38 #[.slice A xs.length c, .string lay, .string text] w (RI2 (M_AlternationsOf xs lay text) w) := by
  by_cases hS : BoardOk xs ∧ StrokesB xs lay text
  case neg =>
    have HM := Lib.hid (show M_AlternationsOf xs lay text = (0, codeL xs lay text) by unfold M_AlternationsOf; rw [if_neg hS])
    have hne := codeL_ne hS
    have hbd := codeL_bd xs lay text
    obtain ⟨hbd1, hbd2⟩ := hbd
    have HS := Lib.hid hS
    clear hS
    go_enter Try.func38, Try.ntmps38
    go_wp2_with fail
    refine (strokesOf_any _ _ xs hx hk lay hl text ht _ rx).mono ?_; rintro e w1 ⟨hb1, h1⟩
    rcases h1 with ⟨h1, _⟩ | ⟨_, n, rfl, hn⟩
    · exact absurd h1 HS.out
    rw [← hn] at hne hbd1 hbd2
    have HN := Lib.hid hn
    have tn : (n != 0) = true := by rw [bne_iff_ne]; exact hne
    clear hn hne
    go_wp2_with fail
    go_ret2
    exact RI2.mk (by rw [HM.out, HN.out]) hb1
  have hB := hS.1
  have hT := hS.2
  have h400 := hT.2.1
  have hls := hT.1.1
  have hx6 := hB.1.2
  have HLS := Lib.hid hls
  clear hls
  obtain ⟨R, hR⟩ : ∃ R, R = altGo xs (idxs lay text) 0 := ⟨_, rfl⟩
  have HM := Lib.hid (show M_AlternationsOf xs lay text = (R, 0) by unfold M_AlternationsOf; rw [if_pos hS, hR])
  have HR := Lib.hid hR
  clear hR
  go_enter Try.func38, Try.ntmps38
  go_wp2_with fail
  refine (strokesOf_any _ _ xs hx hk lay hl text ht _ rx).mono ?_; rintro e w1 ⟨hb1, h1⟩
  rcases h1 with ⟨_, v, rfl, hown⟩ | ⟨h1, _⟩
  case inr => exact absurd hS h1
  obtain ⟨A2, c2, rfl, ry, hob⟩ := hown.form
  have hpl : (idxs lay text).length = text.size := idxs_len lay text
  have hpl2 : ((idxs lay text).length : Int) = (text.size : Int) := by rw [hpl]
  rw [hpl] at hown ⊢
  have HPL := Lib.hid hpl
  clear hob hpl hpl2
  go_wp2_with fail
  go_loopg [10, 11] text.size (fun g cs is wr => ∃ (k : Nat) (cn : Int), 1 ≤ k ∧ k ≤ text.size + 1 ∧ g = text.size + 1 - k ∧ 0 ≤ cn ∧ cn ≤ k ∧ altGo xs ((idxs lay text).drop (k - 1)) cn = R ∧ Below w1.heap.size w1 wr ∧ cs = .int .i64 cn ∧ is = .int .i64 k)
  case atStart => exact ⟨1, 0, Nat.le_refl _, by omega, by omega, by omega, by omega, HR.out.symm, Below.refl _ _, rfl, rfl⟩
  case round =>
    obtain ⟨k, cn, hk1, hkk, hg, hc0, hc9, hgo, hbw, rfl, rfl⟩ := hrel
    have HG := Lib.hid hg
    clear hg
    by_cases hlt : k < text.size
    · obtain ⟨q, hq, hq1, hq2⟩ := stroke_at hT k hlt
      obtain ⟨p, hp, hp1, hp2⟩ := stroke_at hT (k - 1) (by omega)
      rw [alt_step xs _ k hk1 (by rw [idxs_len]; exact hlt), hp2, hq2, isL_at xs p hp, isL_at xs q hq] at hgo
      have hkl : k - 1 < text.size := by omega
      have hc3 := UInt8.toNat_lt text[k]
      have hc4 := UInt8.toNat_lt text[k - 1]
      have i0 : (1 : Int) ≤ (k : Int) := by omega
      have i1 : (0 : Int) ≤ (k : Int) := by omega
      have i2 : (k : Int) < (text.size : Int) := by omega
      have i3 : (0 : Int) ≤ (p : Int) := by omega
      have i4 : (p : Int) < (xs.length : Int) := by omega
      have i5 : (0 : Int) ≤ (q : Int) := by omega
      have i6 : (q : Int) < (xs.length : Int) := by omega
      have i7 : (0 : Int) ≤ (k : Int) - 1 := by omega
      have i8 : (k : Int) - 1 < (text.size : Int) := by omega
      have i9 : IntKind.i64.wrap ((k : Int) - 1) = (k : Int) - 1 := (IntWalk.i64_in _ (by omega))
      obtain ⟨ch1, hch1⟩ : ∃ ch, text[k - 1] = ch := ⟨_, rfl⟩
      obtain ⟨ch2, hch2⟩ : ∃ ch, text[k] = ch := ⟨_, rfl⟩
      rw [hch1] at hp1 hc4
      rw [hch2] at hq1 hc3
      have HP1 := Lib.hid hp1
      have HQ1 := Lib.hid hq1
      have hB2 := bnext hb1 hbw
      obtain ⟨b, off, hA, hbb, c0, c1, c2'⟩ := (rx.below hB2).at3 (f := fun x : TPlace => .int .i64 x.1) (g := fun x : TPlace => .int .i64 x.2.1) (i := fun x : TPlace => .int .i64 x.2.2) hp
      obtain ⟨b', off', hA', hbb', d0, d1, d2⟩ := (rx.below hB2).at3 (f := fun x : TPlace => .int .i64 x.1) (g := fun x : TPlace => .int .i64 x.2.1) (i := fun x : TPlace => .int .i64 x.2.2) hq
      rw [hA] at hA'
      simp only [Option.some.injEq, Addr.mk.injEq, and_true] at hA'
      obtain ⟨rfl, rfl⟩ := hA'
      subst hA
      obtain ⟨b3, off3, hA3, hb3, e0⟩ := (ry.below hbw).at1 (f := fun x : Int => .int .i64 x) (k := k) (by rw [idxs_len]; exact hlt)
      obtain ⟨b3', off3', hA3', hb3', f0⟩ := (ry.below hbw).at1 (f := fun x : Int => .int .i64 x) (k := k - 1) (by rw [idxs_len]; exact hkl)
      rw [hA3] at hA3'
      simp only [Option.some.injEq, Addr.mk.injEq, and_true] at hA3'
      obtain ⟨rfl, rfl⟩ := hA3'
      subst hA3
      rw [hq2] at e0
      rw [hp2] at f0
      have j4 : ((k : Int) - 1).toNat = k - 1 := by omega
      clear hp1 hp2 hq1 hq2
      generalize xs[p] = x at *
      generalize xs[q] = y at *
      obtain ⟨p1, p2, p3⟩ := x
      obtain ⟨q1, q2, q3⟩ := y
      simp only at c0 c1 c2' d0 d1 d2 hgo
      have k8 : Alt8 wr b3 (off3 + (k - 1)) (off3 + k) b (off + p * 3) (off + q * 3) p q (p1, p2, p3) (q1, q2, q3) := ⟨⟨hb3, hbb⟩, f0, e0, ⟨c0, c1, c2'⟩, d0, d1, d2⟩
      have hbr : Below wr.heap.size wr wr := Below.refl _ _
      clear f0 e0 c0 c1 c2' d0 d1 d2
      have w4 : (p1 ≤ 3 ∧ q1 ≤ 3) ∨ (p1 ≤ 3 ∧ ¬ q1 ≤ 3) ∨ (¬ p1 ≤ 3 ∧ q1 ≤ 3) ∨ (¬ p1 ≤ 3 ∧ ¬ q1 ≤ 3) := by omega
      rcases w4 with ⟨hL, hL2⟩ | ⟨hL, hL2⟩ | ⟨hL, hL2⟩ | ⟨hL, hL2⟩
      · have hd : decide (p1 ≤ 3) = true := by exact decide_eq_true hL
        have hd2 : decide (q1 ≤ 3) = true := by exact decide_eq_true hL2
        rw [hd, hd2, if_pos rfl] at hgo
        have HF := Lib.hid hgo
        clear hgo hL hL2
        go_wp2_with fail
        go_region_held3 (fun w' => w'.cell? ⟨b3, off3 + (k - 1), none⟩ = some (.int .i64 p) ∧ w'.cell? ⟨b3, off3 + k, none⟩ = some (.int .i64 q) ∧ (w'.cell? ⟨b, off + p * 3, none⟩ = some (.int .i64 p1) ∧ w'.cell? ⟨b, off + p * 3 + 1, none⟩ = some (.int .i64 p2) ∧ w'.cell? ⟨b, off + p * 3 + 2, none⟩ = some (.int .i64 p3)) ∧ (w'.cell? ⟨b, off + q * 3, none⟩ = some (.int .i64 q1) ∧ w'.cell? ⟨b, off + q * 3 + 1, none⟩ = some (.int .i64 q2) ∧ w'.cell? ⟨b, off + q * 3 + 2, none⟩ = some (.int .i64 q3))) (first | exact k8.2) (first | (go_at_call_of 81 (p1); refine (isLeft_any p1 p2 p3 _).mono ?_; rintro e w5 ⟨rfl, hb5⟩; (first | replace hbr := bnext hbr hb5 | replace hbr := bnext hbr (bundrew hb5)); (first | replace k8 := k8.next hb5 | replace k8 := k8.next (bundrew hb5))) | (go_at_call_of 81 (q1); refine (isLeft_any q1 q2 q3 _).mono ?_; rintro e w5 ⟨rfl, hb5⟩; (first | replace hbr := bnext hbr hb5 | replace hbr := bnext hbr (bundrew hb5)); (first | replace k8 := k8.next hb5 | replace k8 := k8.next (bundrew hb5))))
        all_goals go_wp2_with fail
        all_goals go_roundg (text.size + 1 - (k + 1))
        all_goals (try (rw [HG.out]; omega))
        all_goals exact ⟨k + 1, cn, by omega, by omega, rfl, by omega, by omega, HF.out, bnext hbw hbr, by go_num, by go_num⟩
      · have hd : decide (p1 ≤ 3) = true := by exact decide_eq_true hL
        have hd2 : decide (q1 ≤ 3) = false := by exact decide_eq_false hL2
        rw [hd, hd2, if_neg (by simp)] at hgo
        have HF := Lib.hid hgo
        clear hgo hL hL2
        go_wp2_with fail
        go_region_held3 (fun w' => w'.cell? ⟨b3, off3 + (k - 1), none⟩ = some (.int .i64 p) ∧ w'.cell? ⟨b3, off3 + k, none⟩ = some (.int .i64 q) ∧ (w'.cell? ⟨b, off + p * 3, none⟩ = some (.int .i64 p1) ∧ w'.cell? ⟨b, off + p * 3 + 1, none⟩ = some (.int .i64 p2) ∧ w'.cell? ⟨b, off + p * 3 + 2, none⟩ = some (.int .i64 p3)) ∧ (w'.cell? ⟨b, off + q * 3, none⟩ = some (.int .i64 q1) ∧ w'.cell? ⟨b, off + q * 3 + 1, none⟩ = some (.int .i64 q2) ∧ w'.cell? ⟨b, off + q * 3 + 2, none⟩ = some (.int .i64 q3))) (first | exact k8.2) (first | (go_at_call_of 81 (p1); refine (isLeft_any p1 p2 p3 _).mono ?_; rintro e w5 ⟨rfl, hb5⟩; (first | replace hbr := bnext hbr hb5 | replace hbr := bnext hbr (bundrew hb5)); (first | replace k8 := k8.next hb5 | replace k8 := k8.next (bundrew hb5))) | (go_at_call_of 81 (q1); refine (isLeft_any q1 q2 q3 _).mono ?_; rintro e w5 ⟨rfl, hb5⟩; (first | replace hbr := bnext hbr hb5 | replace hbr := bnext hbr (bundrew hb5)); (first | replace k8 := k8.next hb5 | replace k8 := k8.next (bundrew hb5))))
        all_goals go_wp2_with fail
        all_goals go_roundg (text.size + 1 - (k + 1))
        all_goals (try (rw [HG.out]; omega))
        all_goals exact ⟨k + 1, cn + 1, by omega, by omega, rfl, by omega, by omega, HF.out, bnext hbw hbr, by go_num, by go_num⟩
      · have hd : decide (p1 ≤ 3) = false := by exact decide_eq_false hL
        have hd2 : decide (q1 ≤ 3) = true := by exact decide_eq_true hL2
        rw [hd, hd2, if_neg (by simp)] at hgo
        have HF := Lib.hid hgo
        clear hgo hL hL2
        go_wp2_with fail
        go_region_held3 (fun w' => w'.cell? ⟨b3, off3 + (k - 1), none⟩ = some (.int .i64 p) ∧ w'.cell? ⟨b3, off3 + k, none⟩ = some (.int .i64 q) ∧ (w'.cell? ⟨b, off + p * 3, none⟩ = some (.int .i64 p1) ∧ w'.cell? ⟨b, off + p * 3 + 1, none⟩ = some (.int .i64 p2) ∧ w'.cell? ⟨b, off + p * 3 + 2, none⟩ = some (.int .i64 p3)) ∧ (w'.cell? ⟨b, off + q * 3, none⟩ = some (.int .i64 q1) ∧ w'.cell? ⟨b, off + q * 3 + 1, none⟩ = some (.int .i64 q2) ∧ w'.cell? ⟨b, off + q * 3 + 2, none⟩ = some (.int .i64 q3))) (first | exact k8.2) (first | (go_at_call_of 81 (p1); refine (isLeft_any p1 p2 p3 _).mono ?_; rintro e w5 ⟨rfl, hb5⟩; (first | replace hbr := bnext hbr hb5 | replace hbr := bnext hbr (bundrew hb5)); (first | replace k8 := k8.next hb5 | replace k8 := k8.next (bundrew hb5))) | (go_at_call_of 81 (q1); refine (isLeft_any q1 q2 q3 _).mono ?_; rintro e w5 ⟨rfl, hb5⟩; (first | replace hbr := bnext hbr hb5 | replace hbr := bnext hbr (bundrew hb5)); (first | replace k8 := k8.next hb5 | replace k8 := k8.next (bundrew hb5))))
        all_goals go_wp2_with fail
        all_goals go_roundg (text.size + 1 - (k + 1))
        all_goals (try (rw [HG.out]; omega))
        all_goals exact ⟨k + 1, cn + 1, by omega, by omega, rfl, by omega, by omega, HF.out, bnext hbw hbr, by go_num, by go_num⟩
      · have hd : decide (p1 ≤ 3) = false := by exact decide_eq_false hL
        have hd2 : decide (q1 ≤ 3) = false := by exact decide_eq_false hL2
        rw [hd, hd2, if_pos rfl] at hgo
        have HF := Lib.hid hgo
        clear hgo hL hL2
        go_wp2_with fail
        go_region_held3 (fun w' => w'.cell? ⟨b3, off3 + (k - 1), none⟩ = some (.int .i64 p) ∧ w'.cell? ⟨b3, off3 + k, none⟩ = some (.int .i64 q) ∧ (w'.cell? ⟨b, off + p * 3, none⟩ = some (.int .i64 p1) ∧ w'.cell? ⟨b, off + p * 3 + 1, none⟩ = some (.int .i64 p2) ∧ w'.cell? ⟨b, off + p * 3 + 2, none⟩ = some (.int .i64 p3)) ∧ (w'.cell? ⟨b, off + q * 3, none⟩ = some (.int .i64 q1) ∧ w'.cell? ⟨b, off + q * 3 + 1, none⟩ = some (.int .i64 q2) ∧ w'.cell? ⟨b, off + q * 3 + 2, none⟩ = some (.int .i64 q3))) (first | exact k8.2) (first | (go_at_call_of 81 (p1); refine (isLeft_any p1 p2 p3 _).mono ?_; rintro e w5 ⟨rfl, hb5⟩; (first | replace hbr := bnext hbr hb5 | replace hbr := bnext hbr (bundrew hb5)); (first | replace k8 := k8.next hb5 | replace k8 := k8.next (bundrew hb5))) | (go_at_call_of 81 (q1); refine (isLeft_any q1 q2 q3 _).mono ?_; rintro e w5 ⟨rfl, hb5⟩; (first | replace hbr := bnext hbr hb5 | replace hbr := bnext hbr (bundrew hb5)); (first | replace k8 := k8.next hb5 | replace k8 := k8.next (bundrew hb5))))
        all_goals go_wp2_with fail
        all_goals go_roundg (text.size + 1 - (k + 1))
        all_goals (try (rw [HG.out]; omega))
        all_goals exact ⟨k + 1, cn, by omega, by omega, rfl, by omega, by omega, HF.out, bnext hbw hbr, by go_num, by go_num⟩
    · have hfin : cn = R := by
        rw [alt_end xs _ k hk1 (by rw [idxs_len]; omega)] at hgo; exact hgo
      have HF := Lib.hid hfin
      clear hfin hgo
      go_wp2_with fail
      go_ret2
      exact RI2.mk (by rw [HM.out, ← HF.out]) (bnext hb1 hbw)
set_option maxHeartbeats 6400000 in
set_option maxRecDepth 10000 in
theorem spec_AlternationsOf_any (A : Option Addr) (c : Nat) (xs : List TPlace) (hx : xs.length ≤ 1048576) (hk : ∀ x ∈ xs, KPlace x) (lay : ByteArray) (hl : lay.size ≤ 1048576) (text : ByteArray) (ht : text.size ≤ 1048576) (w : World) (rx : Row w A encPlace 3 xs) :
    Calls Try.prog 37 #[.slice A xs.length c, .string lay, .string text] w (RI2 (M_AlternationsOf xs lay text) w) := by
  by_cases hS : BoardOk xs ∧ StrokesB xs lay text
  case neg =>
    have HM := Lib.hid (show M_AlternationsOf xs lay text = (0, codeL xs lay text) by unfold M_AlternationsOf; rw [if_neg hS])
    have hne := codeL_ne hS
    have hbd := codeL_bd xs lay text
    obtain ⟨hbd1, hbd2⟩ := hbd
    have HS := Lib.hid hS
    clear hS
    go_enter Try.func37, Try.ntmps37
    go_wp2_with fail
    refine (l07Code_any _ _ xs hx hk lay hl text ht _ rx).mono ?_; rintro e w1 ⟨n, rfl, hn, hb1⟩
    rw [← hn] at hne hbd1 hbd2
    have HN := Lib.hid hn
    have tn : (n != 0) = true := by rw [bne_iff_ne]; exact hne
    clear hn hne
    go_wp2_with fail
    go_ret2
    exact RI2.mk (by rw [HM.out, HN.out]) hb1
  have hB := hS.1
  have hT := hS.2
  have h400 := hT.2.1
  have hls := hT.1.1
  have hx6 := hB.1.2
  have HLS := Lib.hid hls
  clear hls
  obtain ⟨R, hR⟩ : ∃ R, R = altGo xs (idxs lay text) 0 := ⟨_, rfl⟩
  have HM := Lib.hid (show M_AlternationsOf xs lay text = (R, 0) by unfold M_AlternationsOf; rw [if_pos hS, hR])
  have HR := Lib.hid hR
  clear hR
  go_enter Try.func37, Try.ntmps37
  go_wp2_with fail
  refine (l07Code_any _ _ xs hx hk lay hl text ht _ rx).mono ?_; rintro e w1 ⟨n, rfl, hn, hb1⟩
  replace hn := hn.trans (codeL_zero hB hT)
  subst hn
  go_wp2_with fail
  go_loopg [9, 10] text.size (fun g cs is wr => ∃ (k : Nat) (cn : Int), 1 ≤ k ∧ k ≤ text.size + 1 ∧ g = text.size + 1 - k ∧ 0 ≤ cn ∧ cn ≤ k ∧ altGo xs ((idxs lay text).drop (k - 1)) cn = R ∧ Below w1.heap.size w1 wr ∧ cs = .int .i64 cn ∧ is = .int .i64 k)
  case atStart => exact ⟨1, 0, Nat.le_refl _, by omega, by omega, by omega, by omega, HR.out.symm, Below.refl _ _, rfl, rfl⟩
  case round =>
    obtain ⟨k, cn, hk1, hkk, hg, hc0, hc9, hgo, hbw, rfl, rfl⟩ := hrel
    have HG := Lib.hid hg
    clear hg
    by_cases hlt : k < text.size
    · obtain ⟨q, hq, hq1, hq2⟩ := stroke_at hT k hlt
      obtain ⟨p, hp, hp1, hp2⟩ := stroke_at hT (k - 1) (by omega)
      rw [alt_step xs _ k hk1 (by rw [idxs_len]; exact hlt), hp2, hq2, isL_at xs p hp, isL_at xs q hq] at hgo
      have hkl : k - 1 < text.size := by omega
      have hc3 := UInt8.toNat_lt text[k]
      have hc4 := UInt8.toNat_lt text[k - 1]
      have i0 : (1 : Int) ≤ (k : Int) := by omega
      have i1 : (0 : Int) ≤ (k : Int) := by omega
      have i2 : (k : Int) < (text.size : Int) := by omega
      have i3 : (0 : Int) ≤ (p : Int) := by omega
      have i4 : (p : Int) < (xs.length : Int) := by omega
      have i5 : (0 : Int) ≤ (q : Int) := by omega
      have i6 : (q : Int) < (xs.length : Int) := by omega
      have i7 : (0 : Int) ≤ (k : Int) - 1 := by omega
      have i8 : (k : Int) - 1 < (text.size : Int) := by omega
      have i9 : IntKind.i64.wrap ((k : Int) - 1) = (k : Int) - 1 := (IntWalk.i64_in _ (by omega))
      obtain ⟨ch1, hch1⟩ : ∃ ch, text[k - 1] = ch := ⟨_, rfl⟩
      obtain ⟨ch2, hch2⟩ : ∃ ch, text[k] = ch := ⟨_, rfl⟩
      rw [hch1] at hp1 hc4
      rw [hch2] at hq1 hc3
      have HP1 := Lib.hid hp1
      have HQ1 := Lib.hid hq1
      have hB2 := bnext hb1 hbw
      obtain ⟨b, off, hA, hbb, c0, c1, c2'⟩ := (rx.below hB2).at3 (f := fun x : TPlace => .int .i64 x.1) (g := fun x : TPlace => .int .i64 x.2.1) (i := fun x : TPlace => .int .i64 x.2.2) hp
      obtain ⟨b', off', hA', hbb', d0, d1, d2⟩ := (rx.below hB2).at3 (f := fun x : TPlace => .int .i64 x.1) (g := fun x : TPlace => .int .i64 x.2.1) (i := fun x : TPlace => .int .i64 x.2.2) hq
      rw [hA] at hA'
      simp only [Option.some.injEq, Addr.mk.injEq, and_true] at hA'
      obtain ⟨rfl, rfl⟩ := hA'
      subst hA
      have j4 : ((k : Int) - 1).toNat = k - 1 := by omega
      clear hp1 hp2 hq1 hq2
      generalize xs[p] = x at *
      generalize xs[q] = y at *
      obtain ⟨p1, p2, p3⟩ := x
      obtain ⟨q1, q2, q3⟩ := y
      simp only at c0 c1 c2' d0 d1 d2 hgo
      have w4 : (p1 ≤ 3 ∧ q1 ≤ 3) ∨ (p1 ≤ 3 ∧ ¬ q1 ≤ 3) ∨ (¬ p1 ≤ 3 ∧ q1 ≤ 3) ∨ (¬ p1 ≤ 3 ∧ ¬ q1 ≤ 3) := by omega
      rcases w4 with ⟨hL, hL2⟩ | ⟨hL, hL2⟩ | ⟨hL, hL2⟩ | ⟨hL, hL2⟩
      · have hd : decide (p1 ≤ 3) = true := by exact decide_eq_true hL
        have hd2 : decide (q1 ≤ 3) = true := by exact decide_eq_true hL2
        rw [hd, hd2, if_pos rfl] at hgo
        have HF := Lib.hid hgo
        clear hgo hL hL2
        go_wp2_with (first | (go_at_call_of 78 (ch1.toNat); refine (l05_at HP1.out (l05Index_any lay hl ch1 _)).mono ?_; rintro e w4 ⟨rfl, rfl⟩) | (go_at_call_of 78 (ch2.toNat); refine (l05_at HQ1.out (l05Index_any lay hl ch2 _)).mono ?_; rintro e w4 ⟨rfl, rfl⟩) | (go_at_call_of 77 (p1); refine (l07Left_any p1 _).mono ?_; rintro e w5 ⟨rfl, rfl⟩) | (go_at_call_of 77 (q1); refine (l07Left_any q1 _).mono ?_; rintro e w5 ⟨rfl, rfl⟩))
        go_roundg (text.size + 1 - (k + 1))
        case measure => rw [HG.out]; omega
        case rel => exact ⟨k + 1, cn, by omega, by omega, rfl, by omega, by omega, HF.out, hbw, by go_num, by go_num⟩
      · have hd : decide (p1 ≤ 3) = true := by exact decide_eq_true hL
        have hd2 : decide (q1 ≤ 3) = false := by exact decide_eq_false hL2
        rw [hd, hd2, if_neg (by simp)] at hgo
        have HF := Lib.hid hgo
        clear hgo hL hL2
        go_wp2_with (first | (go_at_call_of 78 (ch1.toNat); refine (l05_at HP1.out (l05Index_any lay hl ch1 _)).mono ?_; rintro e w4 ⟨rfl, rfl⟩) | (go_at_call_of 78 (ch2.toNat); refine (l05_at HQ1.out (l05Index_any lay hl ch2 _)).mono ?_; rintro e w4 ⟨rfl, rfl⟩) | (go_at_call_of 77 (p1); refine (l07Left_any p1 _).mono ?_; rintro e w5 ⟨rfl, rfl⟩) | (go_at_call_of 77 (q1); refine (l07Left_any q1 _).mono ?_; rintro e w5 ⟨rfl, rfl⟩))
        go_roundg (text.size + 1 - (k + 1))
        case measure => rw [HG.out]; omega
        case rel => exact ⟨k + 1, cn + 1, by omega, by omega, rfl, by omega, by omega, HF.out, hbw, by go_num, by go_num⟩
      · have hd : decide (p1 ≤ 3) = false := by exact decide_eq_false hL
        have hd2 : decide (q1 ≤ 3) = true := by exact decide_eq_true hL2
        rw [hd, hd2, if_neg (by simp)] at hgo
        have HF := Lib.hid hgo
        clear hgo hL hL2
        go_wp2_with (first | (go_at_call_of 78 (ch1.toNat); refine (l05_at HP1.out (l05Index_any lay hl ch1 _)).mono ?_; rintro e w4 ⟨rfl, rfl⟩) | (go_at_call_of 78 (ch2.toNat); refine (l05_at HQ1.out (l05Index_any lay hl ch2 _)).mono ?_; rintro e w4 ⟨rfl, rfl⟩) | (go_at_call_of 77 (p1); refine (l07Left_any p1 _).mono ?_; rintro e w5 ⟨rfl, rfl⟩) | (go_at_call_of 77 (q1); refine (l07Left_any q1 _).mono ?_; rintro e w5 ⟨rfl, rfl⟩))
        go_roundg (text.size + 1 - (k + 1))
        case measure => rw [HG.out]; omega
        case rel => exact ⟨k + 1, cn + 1, by omega, by omega, rfl, by omega, by omega, HF.out, hbw, by go_num, by go_num⟩
      · have hd : decide (p1 ≤ 3) = false := by exact decide_eq_false hL
        have hd2 : decide (q1 ≤ 3) = false := by exact decide_eq_false hL2
        rw [hd, hd2, if_pos rfl] at hgo
        have HF := Lib.hid hgo
        clear hgo hL hL2
        go_wp2_with (first | (go_at_call_of 78 (ch1.toNat); refine (l05_at HP1.out (l05Index_any lay hl ch1 _)).mono ?_; rintro e w4 ⟨rfl, rfl⟩) | (go_at_call_of 78 (ch2.toNat); refine (l05_at HQ1.out (l05Index_any lay hl ch2 _)).mono ?_; rintro e w4 ⟨rfl, rfl⟩) | (go_at_call_of 77 (p1); refine (l07Left_any p1 _).mono ?_; rintro e w5 ⟨rfl, rfl⟩) | (go_at_call_of 77 (q1); refine (l07Left_any q1 _).mono ?_; rintro e w5 ⟨rfl, rfl⟩))
        go_roundg (text.size + 1 - (k + 1))
        case measure => rw [HG.out]; omega
        case rel => exact ⟨k + 1, cn, by omega, by omega, rfl, by omega, by omega, HF.out, hbw, by go_num, by go_num⟩
    · have hfin : cn = R := by
        rw [alt_end xs _ k hk1 (by rw [idxs_len]; omega)] at hgo; exact hgo
      have HF := Lib.hid hfin
      clear hfin hgo
      go_wp2_with fail
      go_ret2
      exact RI2.mk (by rw [HM.out, ← HF.out]) (bnext hb1 hbw)
end Go.Proofs.Ytemaheoebigkgaa
