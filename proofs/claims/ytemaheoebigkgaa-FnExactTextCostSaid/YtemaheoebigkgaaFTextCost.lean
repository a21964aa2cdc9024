/-
  FTextCost: the cost of a text by a layout: spec.l00Sum, l07Costs, TextCost; impl.placesCost, TextCost.
-/
import Derived.Test.YtemaheoebigkgaaFHands
namespace Go.Proofs.Ytemaheoebigkgaa
open Go.RowKit
set_option linter.unusedVariables false
attribute [local go_sem ↓] Go.wp_at_zero Go.wp_at_succ
def plAt (xs : List TPlace) (p : Int) : TPlace := xs.getD p.toNat (0, 0, 0)
theorem plAt_eq (xs : List TPlace) (p : Nat) (h : p < xs.length) : plAt xs (p : Int) = xs[p] := by
  unfold plAt
  rw [Int.toNat_natCast, List.getD_eq_getElem?_getD, List.getElem?_eq_getElem h]; rfl
def costAt (xs : List TPlace) (ps : List Int) (i : Nat) : Int :=
  if i = 0 then (plAt xs (ps.getD 0 0)).2.2 else costV (plAt xs (ps.getD (i - 1) 0)) (plAt xs (ps.getD i 0)) (ps.getD (i - 1) 0).toNat (ps.getD i 0).toNat
def costsL (xs : List TPlace) (ps : List Int) : List Int := (List.range ps.length).map (costAt xs ps)
def sumL (l : List Int) : Int := l.foldl (· + ·) 0
theorem costsL_len (xs : List TPlace) (ps : List Int) : (costsL xs ps).length = ps.length := by unfold costsL; simp
theorem costsL_get (xs : List TPlace) (ps : List Int) (k : Nat) (h : k < ps.length) : (costsL xs ps)[k]'(by rw [costsL_len]; exact h) = costAt xs ps k := by unfold costsL; simp
theorem sumL_succ (l : List Int) (k : Nat) (h : k < l.length) : sumL (l.take (k + 1)) = sumL (l.take k) + l[k] := by
  unfold sumL
  rw [List.take_succ_eq_append_getElem h, List.foldl_append]; rfl
theorem sumL_bd (l : List Int) (h : ∀ x ∈ l, 0 ≤ x ∧ x ≤ 200) : ∀ k, k ≤ l.length → 0 ≤ sumL (l.take k) ∧ sumL (l.take k) ≤ 200 * k
  | 0, _ => by simp [sumL]
  | k + 1, hk => by
    have h1 := sumL_bd l h k (by omega)
    rw [sumL_succ l k (by omega)]
    have := h _ (List.getElem_mem (show k < l.length by omega))
    omega
theorem costV_bd (p q : TPlace) (i j : Nat) (hp : PlaceOk p) (hq : PlaceOk q) : 0 ≤ costV p q i j ∧ costV p q i j ≤ 200 := by
  unfold costV
  have := hp.2.1; have := hq.2.1; have := hq.2.2
  split
  · omega
  · split
    · omega
    · split <;> omega
/-- The places of strokes lie on the board. -/
def OnBoard (xs : List TPlace) (ps : List Int) : Prop := ∀ k (h : k < ps.length), ∃ p : Nat, p < xs.length ∧ ps[k] = p
theorem onBoard_of {xs : List TPlace} {lay text : ByteArray} (h : StrokesB xs lay text) : OnBoard xs (idxs lay text) := fun k hk => by
  rw [idxs_len] at hk
  obtain ⟨p, hp, h1, h2⟩ := stroke_at h k hk
  exact ⟨p, hp, h2⟩
theorem getD_at (ps : List Int) (k : Nat) (h : k < ps.length) : ps.getD k 0 = ps[k] := by rw [List.getD_eq_getElem?_getD, List.getElem?_eq_getElem h]; rfl
theorem costAt_zero (xs : List TPlace) (ps : List Int) (h : 0 < ps.length) (p : Nat) (hp : p < xs.length) (he : ps[0] = p) : costAt xs ps 0 = xs[p].2.2 := by
  unfold costAt
  rw [if_pos rfl, getD_at ps 0 h, he, plAt_eq xs p hp]
theorem costAt_next (xs : List TPlace) (ps : List Int) (k : Nat) (h : k < ps.length) (h1 : 1 ≤ k) (p q : Nat) (hp : p < xs.length) (hq : q < xs.length) (he : ps[k - 1]'(by omega) = p) (he2 : ps[k] = q) : costAt xs ps k = costV xs[p] xs[q] p q := by
  unfold costAt
  rw [if_neg (by omega), getD_at ps k h, getD_at ps (k - 1) (by omega), he, he2, plAt_eq xs p hp, plAt_eq xs q hq, Int.toNat_natCast, Int.toNat_natCast]
theorem costAt_bd (xs : List TPlace) (hB : BoardOk xs) (ps : List Int) (hO : OnBoard xs ps) (k : Nat) (h : k < ps.length) : 0 ≤ costAt xs ps k ∧ costAt xs ps k ≤ 200 := by
  rcases Nat.eq_zero_or_pos k with h0 | h0
  · subst h0
    obtain ⟨p, hp, he⟩ := hO 0 h
    rw [costAt_zero xs ps h p hp he]
    have := (hB.2 _ (List.getElem_mem hp)).2.2
    omega
  · obtain ⟨p, hp, he⟩ := hO (k - 1) (by omega)
    obtain ⟨q, hq, he2⟩ := hO k h
    rw [costAt_next xs ps k h h0 p q hp hq he he2]
    exact costV_bd _ _ _ _ (hB.2 _ (List.getElem_mem hp)) (hB.2 _ (List.getElem_mem hq))
theorem costsL_bd (xs : List TPlace) (hB : BoardOk xs) (ps : List Int) (hO : OnBoard xs ps) : ∀ x ∈ costsL xs ps, 0 ≤ x ∧ x ≤ 200 := by
  intro x hx
  obtain ⟨k, hk, rfl⟩ := List.getElem_of_mem hx
  rw [costsL_len] at hk
  rw [costsL_get xs ps k hk]
  exact costAt_bd xs hB ps hO k hk
open Classical in
noncomputable def M_TextCost (xs : List TPlace) (lay text : ByteArray) : Int × Int :=
  if BoardOk xs ∧ StrokesB xs lay text then (sumL (costsL xs (idxs lay text)), 0) else (0, codeL xs lay text)
set_option maxHeartbeats 1600000 in
theorem l00Sum_any (A : Option Addr) (c : Nat) (xs : List Int) (hx : xs.length ≤ 4000) (h : ∀ x ∈ xs, 0 ≤ x ∧ x ≤ 200) (w : World) (rx : Row w A encInt 1 xs) :
    Calls Try.prog 103 #[.slice A xs.length c] w fun e w' => e = .returned (.int .i64 (sumL xs)) ∧ w = w' := by
  obtain ⟨R, hR⟩ : ∃ R, R = sumL xs := ⟨_, rfl⟩
  rw [← hR]
  have HR := Lib.hid hR
  clear hR
  go_enter Try.func103, Try.ntmps103
  go_wp2
  go_loop [3, 4] (fun s i => ∃ (k : Nat) (n : Int), k ≤ xs.length ∧ 0 ≤ n ∧ n ≤ 200 * k ∧ n = sumL (xs.take k) ∧ s = .int .i64 n ∧ i = .int .i64 k) (fun _ i => xs.length - (intOf i).toNat)
  case atStart => exact ⟨0, 0, Nat.zero_le _, by omega, by omega, rfl, rfl, rfl⟩
  case round =>
    obtain ⟨k, n, hk, hn0, hn9, hn, rfl, rfl⟩ := hrel
    have HN := Lib.hid hn
    clear hn
    by_cases hlt : k < xs.length
    · obtain ⟨b, off, hA, hbb, c0⟩ := rx.at1 (f := fun x : Int => .int .i64 x) hlt
      subst hA
      have hb := h _ (List.getElem_mem hlt)
      obtain ⟨hb0, hb9⟩ := hb
      go_wp2
      go_round
      case rel => exact ⟨k + 1, n + xs[k], by omega, by omega, by omega, by rw [sumL_succ xs k hlt, ← HN.out], by go_num, by go_num⟩
      case measure => simp [intOf]; omega
    · have hfin : n = R := by
        have := HN.out
        rw [List.take_of_length_le (by omega)] at this
        rw [this, HR.out]
      have HF := Lib.hid hfin
      clear hfin
      go_wp2
      go_ret
      exact ⟨ret_int HF.out, rfl⟩
set_option maxHeartbeats 3200000 in
set_option maxRecDepth 10000 in
theorem placesCost_any (A : Option Addr) (c : Nat) (xs : List TPlace) (ok : BoardOk xs) (A2 : Option Addr) (c2 : Nat) (ps : List Int) (hp4 : ps.length ≤ 400) (hO : OnBoard xs ps) (w : World) (rx : Row w A encPlace 3 xs) (ry : Row w A2 encInt 1 ps) :
    Calls Try.prog 105 #[.slice A xs.length c, .slice A2 ps.length c2] w fun e w' => e = .returned (.int .i64 (sumL (costsL xs ps))) ∧ Below w.heap.size w w' := by
  obtain ⟨R, hR⟩ : ∃ R, R = sumL (costsL xs ps) := ⟨_, rfl⟩
  rw [← hR]
  have HR := Lib.hid hR
  have hbd := costsL_bd xs ok ps hO
  have HBd := Lib.hid hbd
  have hxl : xs.length ≤ 6 := ok.1.2
  clear hR hbd
  go_enter Try.func105, Try.ntmps105
  go_wp2_with fail
  go_loopg [5, 10] ps.length (fun g ss is wr => ∃ (k : Nat) (n : Int), k ≤ ps.length ∧ g = ps.length - k ∧ 0 ≤ n ∧ n ≤ 200 * k ∧ n = sumL ((costsL xs ps).take k) ∧ Below w.heap.size w wr ∧ ss = .int .i64 n ∧ is = .int .i64 k)
  case atStart => exact ⟨0, 0, Nat.zero_le _, rfl, by omega, by omega, rfl, Below.refl _ _, rfl, rfl⟩
  case round =>
    obtain ⟨k, n, hk, hg, hn0, hn9, hn, hbw, rfl, rfl⟩ := hrel
    have HG := Lib.hid hg
    have HN := Lib.hid hn
    clear hg hn
    by_cases hlt : k < ps.length
    · obtain ⟨q, hq, hq2⟩ := hO k hlt
      have hcb := costAt_bd xs ok ps hO k hlt
      obtain ⟨hcb1, hcb2⟩ := hcb
      have hst : sumL ((costsL xs ps).take (k + 1)) = n + costAt xs ps k := by rw [sumL_succ _ k (by rw [costsL_len]; exact hlt), costsL_get xs ps k hlt, HN.out]
      have hnx := sumL_bd (costsL xs ps) HBd.out (k + 1) (by rw [costsL_len]; omega)
      rw [hst] at hnx
      obtain ⟨b3, off3, hA3, hb3, e0⟩ := (ry.below hbw).at1 (f := fun x : Int => .int .i64 x) (k := k) hlt
      subst hA3
      rcases Nat.eq_zero_or_pos k with h0 | h0
      · subst h0
        obtain ⟨b, off, hA, hbb, c0, c1, c2'⟩ := (rx.below hbw).at3 (f := fun x : TPlace => .int .i64 x.1) (g := fun x : TPlace => .int .i64 x.2.1) (i := fun x : TPlace => .int .i64 x.2.2) hq
        subst hA
        rw [hq2] at e0
        rw [costAt_zero xs ps hlt q hq hq2] at hst hnx hcb1 hcb2
        obtain ⟨hnx1, hnx2⟩ := hnx
        have i5 : (0 : Int) ≤ (q : Int) := by omega
        have i6 : (q : Int) < (xs.length : Int) := by omega
        have HST := Lib.hid hst
        clear hst hq2
        simp only [Nat.add_zero] at e0
        go_wp2_with fail
        go_roundg (ps.length - (0 + 1))
        case measure => rw [HG.out]; omega
        case rel => exact ⟨0 + 1, n + xs[q].2.2, by omega, rfl, by omega, by omega, HST.out.symm, hbw, by go_num, by go_num⟩
      · obtain ⟨p, hp, hp2⟩ := hO (k - 1) (by omega)
        have t0 : ((k : Int) == 0) = false := by rw [beq_eq_false_iff_ne]; omega
        have hkl : k - 1 < ps.length := by omega
        obtain ⟨b3', off3', hA3', hb3', f0⟩ := (ry.below hbw).at1 (f := fun x : Int => .int .i64 x) (k := k - 1) hkl
        simp only [Option.some.injEq, Addr.mk.injEq, and_true] at hA3'
        obtain ⟨rfl, rfl⟩ := hA3'
        rw [hq2] at e0
        rw [hp2] at f0
        rw [costAt_next xs ps k hlt h0 p q hp hq hp2 hq2] at hst hnx hcb1 hcb2
        obtain ⟨hnx1, hnx2⟩ := hnx
        have i00 : (1 : Int) ≤ (k : Int) := by omega
        have i1 : (0 : Int) ≤ (k : Int) := by omega
        have i2 : (k : Int) < (ps.length : Int) := by omega
        have i3 : (0 : Int) ≤ (p : Int) := by omega
        have i4 : (p : Int) < (xs.length : Int) := by omega
        have i5 : (0 : Int) ≤ (q : Int) := by omega
        have i6 : (q : Int) < (xs.length : Int) := by omega
        have i7 : (0 : Int) ≤ (k : Int) - 1 := by omega
        have i8 : (k : Int) - 1 < (ps.length : Int) := by omega
        have i9 : IntKind.i64.wrap ((k : Int) - 1) = (k : Int) - 1 := (IntWalk.i64_in _ (by omega))
        have j4 : ((k : Int) - 1).toNat = k - 1 := by omega
        have HST := Lib.hid hst
        clear hst hq2 hp2
        obtain ⟨C, hC⟩ : ∃ C, costV xs[p] xs[q] p q = C := ⟨_, rfl⟩
        have HC := Lib.hid hC
        rw [hC] at hnx1 hnx2 hcb1 hcb2
        clear hC
        go_wp2_with (go_at_call 131; refine (strokeCost_any _ _ xs ok _ (rx.below hbw) p q hp hq).mono ?_; rintro e w5 ⟨rfl, hb5⟩; rw [HC.out])
        go_roundg (ps.length - (k + 1))
        case measure => rw [HG.out]; omega
        case rel => exact ⟨k + 1, n + C, by omega, rfl, by omega, by omega, by rw [HST.out, HC.out], bnext hbw hb5, by go_num, by go_num⟩
    · have hfin : n = R := by
        have := HN.out
        rw [List.take_of_length_le (by rw [costsL_len]; omega)] at this
        rw [this, HR.out]
      have HF := Lib.hid hfin
      clear hfin
      go_wp2_with fail
      go_ret
      exact ⟨ret_int HF.out, hbw⟩
set_option maxHeartbeats 3200000 in
set_option maxRecDepth 10000 in
theorem l07Costs_any (A : Option Addr) (c : Nat) (xs : List TPlace) (ok : BoardOk xs) (lay : ByteArray) (hl : lay.size ≤ 1048576) (text : ByteArray) (hT : StrokesB xs lay text) (w : World) (rx : Row w A encPlace 3 xs) :
    Calls Try.prog 104 #[.slice A xs.length c, .string lay, .string text] w fun e w' => ∃ v, e = .returned v ∧ Own w' w.heap.size 2 encInt 1 v (costsL xs (idxs lay text)) ∧ Below w.heap.size w w' := by
  obtain ⟨i0, hi, hz, hsz, hby⟩ := info_parts info_Int64S
  have h400 := hT.2.1
  have hxl : xs.length ≤ 6 := ok.1.2
  obtain ⟨ps, hps⟩ : ∃ ps, ps = idxs lay text := ⟨_, rfl⟩
  have hO : OnBoard xs ps := by rw [hps]; exact onBoard_of hT
  have hlen : ps.length = text.size := by rw [hps]; exact idxs_len lay text
  rw [← hps]
  have HPS := Lib.hid hps
  have HLen := Lib.hid hlen
  clear hps
  go_enter Try.func104, Try.ntmps104
  go_wp2_with fail
  go_loopg [7, 8] text.size (fun g vs is wr => ∃ (k : Nat), k ≤ text.size ∧ g = text.size - k ∧ Own wr w.heap.size 2 encInt 1 vs ((costsL xs ps).take k) ∧ Below w.heap.size w wr ∧ is = .int .i64 k)
  case atStart => exact ⟨0, Nat.zero_le _, rfl, Own.lit0 (e := encInt) (s := 1) w (fun _ => rfl) w.heap.size 2 (Nat.le_refl _), bal (Below.refl _ _) _, rfl⟩
  case round =>
    obtain ⟨k, hkk, hg, hown, hbw, rfl⟩ := hrel
    have HG := Lib.hid hg
    have hcl : ((costsL xs ps).take k).length = k := by rw [List.length_take, costsL_len, HLen.out]; omega
    have HL := Lib.hid hcl
    clear hg hcl hlen
    by_cases hlt : k < text.size
    · have hltp : k < ps.length := by rw [HLen.out]; exact hlt
      obtain ⟨q, hq, hq2⟩ := hO k hltp
      have hq1 : idx lay text[k] = q := by rw [← hq2]; have := idxs_get lay text k hlt; rw [← this]; congr 1; exact HPS.out.symm
      obtain ⟨ch2, hch2⟩ : ∃ ch, text[k] = ch := ⟨_, rfl⟩
      have hc3 := UInt8.toNat_lt text[k]
      rw [hch2] at hq1 hc3
      have HQ1 := Lib.hid hq1
      have htk : (costsL xs ps).take (k + 1) = (costsL xs ps).take k ++ [costAt xs ps k] := by
        rw [List.take_succ_eq_append_getElem (by rw [costsL_len]; exact hltp), costsL_get xs ps k hltp]
      have i5 : (0 : Int) ≤ (q : Int) := by omega
      have i6 : (q : Int) < (xs.length : Int) := by omega
      rcases Nat.eq_zero_or_pos k with h0 | h0
      · subst h0
        obtain ⟨b, off, hA, hbb, c0, c1, c2'⟩ := (rx.below hbw).at3 (f := fun x : TPlace => .int .i64 x.1) (g := fun x : TPlace => .int .i64 x.2.1) (i := fun x : TPlace => .int .i64 x.2.2) hq
        subst hA
        rw [costAt_zero xs ps hltp q hq hq2] at htk
        have HTK := Lib.hid htk
        have o2 := hown.below (bal (Below.refl _ _) (.cells #[.int .i64 xs[q].2.2] 2))
        clear htk hq2 hq1
        go_wp2_with (first | (go_at_call 78; refine (l05_at HQ1.out (l05Index_any lay hl ch2 _)).mono ?_; rintro e w4 ⟨rfl, rfl⟩) | (at_builtin; refine app_own rfl _ _ 34 rfl w.heap.size 2 i0 _ 1 8 Try.underlying34 hi hz hsz hby rfl (by decide) _ ((costsL xs ps).take 0) rfl o2 ⟨_, 0, none⟩ 1 xs[q].2.2 rfl (cell_one_new _ _ _) (by simp [Value.oneCell']) (by rw [HL.out]; unfold maxLen; omega) (by rw [HL.out]; omega) (by have := hbw.size; simp [go_sem]; omega) ?_; intro v2 w2 hown2 hg2))
        go_roundg (text.size - (0 + 1))
        case measure => rw [HG.out]; omega
        case rel =>
          have hB2 := bal hbw (.cells #[.int .i64 xs[q].2.2] 2)
          have hb7 := below_own (B := w.heap.size) o2 hg2 (Nat.le_refl _) hB2.size
          exact ⟨0 + 1, by omega, rfl, by rw [HTK.out]; exact hown2, hB2.trans hb7, by go_num⟩
      · obtain ⟨p, hp, hp2⟩ := hO (k - 1) (by omega)
        have hkl : k - 1 < text.size := by omega
        have hp1 : idx lay text[k - 1] = p := by rw [← hp2]; have := idxs_get lay text (k - 1) hkl; rw [← this]; congr 1; exact HPS.out.symm
        obtain ⟨ch1, hch1⟩ : ∃ ch, text[k - 1] = ch := ⟨_, rfl⟩
        have hc4 := UInt8.toNat_lt text[k - 1]
        rw [hch1] at hp1 hc4
        have HP1 := Lib.hid hp1
        have t0 : ((k : Int) == 0) = false := by rw [beq_eq_false_iff_ne]; omega
        rw [costAt_next xs ps k hltp h0 p q hp hq hp2 hq2] at htk
        have i00 : (1 : Int) ≤ (k : Int) := by omega
        have i1 : (0 : Int) ≤ (k : Int) := by omega
        have i2 : (k : Int) < (text.size : Int) := by omega
        have i3 : (0 : Int) ≤ (p : Int) := by omega
        have i4 : (p : Int) < (xs.length : Int) := by omega
        have i5 : (0 : Int) ≤ (q : Int) := by omega
        have i6 : (q : Int) < (xs.length : Int) := by omega
        have i7 : (0 : Int) ≤ (k : Int) - 1 := by omega
        have i8 : (k : Int) - 1 < (text.size : Int) := by omega
        have i9 : IntKind.i64.wrap ((k : Int) - 1) = (k : Int) - 1 := (IntWalk.i64_in _ (by omega))
        have j4 : ((k : Int) - 1).toNat = k - 1 := by omega
        have HTK := Lib.hid htk
        clear htk hq2 hp2 hq1 hp1
        obtain ⟨C, hC⟩ : ∃ C, costV xs[p] xs[q] p q = C := ⟨_, rfl⟩
        have HC := Lib.hid hC
        clear hC
        go_wp2_with (first | (go_at_call_of 78 (ch1.toNat); refine (l05_at HP1.out (l05Index_any lay hl ch1 _)).mono ?_; rintro e w4 ⟨rfl, rfl⟩) | (go_at_call_of 78 (ch2.toNat); refine (l05_at HQ1.out (l05Index_any lay hl ch2 _)).mono ?_; rintro e w4 ⟨rfl, rfl⟩) | (go_at_call 130; refine (l07Cost_any _ _ xs ok _ (rx.below hbw) p q hp hq).mono ?_; rintro e w5 ⟨rfl, hb5⟩; rw [HC.out]; have o2 := (hown.below hb5).below (bal (Below.refl _ _) (.cells #[.int .i64 C] 2))) | (at_builtin; refine app_own rfl _ _ 34 rfl w.heap.size 2 i0 _ 1 8 Try.underlying34 hi hz hsz hby rfl (by decide) _ ((costsL xs ps).take k) rfl o2 ⟨_, 0, none⟩ 1 C rfl (cell_one_new _ _ _) (by simp [Value.oneCell']) (by rw [HL.out]; unfold maxLen; omega) (by rw [HL.out]; omega) (by have := hbw.size; have := hb5.size; simp [go_sem]; omega) ?_; intro v2 w2 hown2 hg2))
        go_roundg (text.size - (k + 1))
        case measure => rw [HG.out]; omega
        case rel =>
          have hB2 := bal (bnext hbw hb5) (.cells #[.int .i64 C] 2)
          have hb7 := below_own (B := w.heap.size) o2 hg2 (Nat.le_refl _) hB2.size
          exact ⟨k + 1, by omega, rfl, by rw [HTK.out, HC.out]; exact hown2, hB2.trans hb7, by go_num⟩
    · have htk : (costsL xs ps).take k = costsL xs ps := List.take_of_length_le (by rw [costsL_len, HLen.out]; omega)
      rw [htk] at hown
      clear htk
      go_wp2_with fail
      go_ret
      exact ⟨_, rfl, hown, hbw⟩
set_option maxHeartbeats 6400000 in
set_option maxRecDepth 10000 in
theorem impl_TextCost_any (A : Option Addr) (c : Nat) (xs : List TPlace) (hx : xs.length ≤ 1048576) (hk : ∀ x ∈ xs, KPlace x) (lay : ByteArray) (hl : lay.size ≤ 1048576) (text : ByteArray) (ht : text.size ≤ 1048576) (w : World) (rx : Row w A encPlace 3 xs) :
    Calls Try.prog 58 #[.slice A xs.length c, .string lay, .string text] w (RI2 (M_TextCost xs lay text) w) := by
  by_cases hS : BoardOk xs ∧ StrokesB xs lay text
  case neg =>
    have HM := Lib.hid (show M_TextCost xs lay text = (0, codeL xs lay text) by unfold M_TextCost; rw [if_neg hS])
    have hne := codeL_ne hS
    have hbd := codeL_bd xs lay text
    obtain ⟨hbd1, hbd2⟩ := hbd
    have HS := Lib.hid hS
    clear hS
    go_enter Try.func58, Try.ntmps58
    go_wp2_with fail
    refine (strokesOf_any _ _ xs hx hk lay hl text ht _ rx).mono ?_; rintro e w1 ⟨hb1, h1⟩
    rcases h1 with ⟨h1, _⟩ | ⟨_, n, rfl, hn⟩
    · exact absurd h1 HS.out
    rw [← hn] at hne hbd1 hbd2
    have HN := Lib.hid hn
    have tn : (n != 0) = true := by rw [bne_iff_ne]; exact hne
    clear hn hne
    go_wp2_with fail
    go_ret2
    exact RI2.mk (by rw [HM.out, HN.out]) hb1
  have hB := hS.1
  have hT := hS.2
  have h400 := hT.2.1
  have hls := hT.1.1
  have hx6 := hB.1.2
  have HLS := Lib.hid hls
  clear hls
  have HM := Lib.hid (show M_TextCost xs lay text = (sumL (costsL xs (idxs lay text)), 0) by unfold M_TextCost; rw [if_pos hS])
  have hO := onBoard_of hT
  have HO := Lib.hid hO
  clear hO
  go_enter Try.func58, Try.ntmps58
  go_wp2_with fail
  refine (strokesOf_any _ _ xs hx hk lay hl text ht _ rx).mono ?_; rintro e w1 ⟨hb1, h1⟩
  rcases h1 with ⟨_, v, rfl, hown⟩ | ⟨h1, _⟩
  case inr => exact absurd hS h1
  obtain ⟨A2, c2, rfl, ry, hob⟩ := hown.form
  clear hob
  go_wp2_with fail
  refine (placesCost_any _ _ xs hB _ _ (idxs lay text) (by rw [idxs_len]; omega) HO.out _ (rx.below hb1) ry).mono ?_; rintro e w2 ⟨rfl, hb2⟩
  go_wp2_with fail
  go_ret2
  exact RI2.mk HM.out.symm (bnext hb1 hb2)
set_option maxHeartbeats 6400000 in
set_option maxRecDepth 10000 in
theorem spec_TextCost_any (A : Option Addr) (c : Nat) (xs : List TPlace) (hx : xs.length ≤ 1048576) (hk : ∀ x ∈ xs, KPlace x) (lay : ByteArray) (hl : lay.size ≤ 1048576) (text : ByteArray) (ht : text.size ≤ 1048576) (w : World) (rx : Row w A encPlace 3 xs) :
    Calls Try.prog 57 #[.slice A xs.length c, .string lay, .string text] w (RI2 (M_TextCost xs lay text) w) := by
  by_cases hS : BoardOk xs ∧ StrokesB xs lay text
  case neg =>
    have HM := Lib.hid (show M_TextCost xs lay text = (0, codeL xs lay text) by unfold M_TextCost; rw [if_neg hS])
    have hne := codeL_ne hS
    have hbd := codeL_bd xs lay text
    obtain ⟨hbd1, hbd2⟩ := hbd
    have HS := Lib.hid hS
    clear hS
    go_enter Try.func57, Try.ntmps57
    go_wp2_with fail
    refine (l07Code_any _ _ xs hx hk lay hl text ht _ rx).mono ?_; rintro e w1 ⟨n, rfl, hn, hb1⟩
    rw [← hn] at hne hbd1 hbd2
    have HN := Lib.hid hn
    have tn : (n != 0) = true := by rw [bne_iff_ne]; exact hne
    clear hn hne
    go_wp2_with fail
    go_ret2
    exact RI2.mk (by rw [HM.out, HN.out]) hb1
  have hB := hS.1
  have hT := hS.2
  have h400 := hT.2.1
  have hls := hT.1.1
  have hx6 := hB.1.2
  have HLS := Lib.hid hls
  clear hls
  have HM := Lib.hid (show M_TextCost xs lay text = (sumL (costsL xs (idxs lay text)), 0) by unfold M_TextCost; rw [if_pos hS])
  have hO := onBoard_of hT
  have HO := Lib.hid hO
  clear hO
  go_enter Try.func57, Try.ntmps57
  go_wp2_with fail
  refine (l07Code_any _ _ xs hx hk lay hl text ht _ rx).mono ?_; rintro e w1 ⟨n, rfl, hn, hb1⟩
  replace hn := hn.trans (codeL_zero hB hT)
  subst hn
  go_wp2_with fail
  refine (l07Costs_any _ _ xs hB lay hl text hT _ (rx.below hb1)).mono ?_; rintro e w2 ⟨v, rfl, hown, hb2⟩
  obtain ⟨A2, c2, rfl, ry, hob⟩ := hown.form
  clear hob
  go_wp2_with fail
  refine (l00Sum_any _ _ _ (by rw [costsL_len, idxs_len]; omega) (costsL_bd xs hB _ HO.out) _ ry).mono ?_; rintro e w3 ⟨rfl, rfl⟩
  go_wp2_with fail
  go_ret2
  exact RI2.mk HM.out.symm (bnext hb1 hb2)
end Go.Proofs.Ytemaheoebigkgaa
