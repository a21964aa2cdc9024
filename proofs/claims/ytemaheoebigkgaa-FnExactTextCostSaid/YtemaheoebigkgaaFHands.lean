/-
  FHands: hands, alternations and cost of a text by a layout: spec and impl.
-/
import Derived.Test.YtemaheoebigkgaaFPlaces
import Derived.Test.YtemaheoebigkgaaFStrokeCost
namespace Go.Proofs.Ytemaheoebigkgaa
open Go.RowKit
set_option linter.unusedVariables false
attribute [local go_sem ↓] Go.wp_at_zero Go.wp_at_succ
theorem l05_at {s : ByteArray} {c : UInt8} {p : Nat} (h : idx s c = p) {P : Program} {f : FuncId} {args : Array Value} {w : World} (hc : Calls P f args w fun e w' => e = .returned (.int .i64 (idx s c)) ∧ w = w') :
    Calls P f args w fun e w' => e = .returned (.int .i64 (p : Int)) ∧ w = w' := by rw [h] at hc; exact hc
def isL (xs : List TPlace) (p : Int) : Bool := decide ((xs.getD p.toNat (0, 0, 0)).1 ≤ 3)
theorem isL_at (xs : List TPlace) (p : Nat) (h : p < xs.length) : isL xs (p : Int) = decide (xs[p].1 ≤ 3) := by
  unfold isL
  rw [Int.toNat_natCast, List.getD_eq_getElem?_getD, List.getElem?_eq_getElem h]; rfl
def leftsGo (xs : List TPlace) : List Int → Int → Int
  | [], c => c
  | p :: ps, c => leftsGo xs ps (if isL xs p = true then c + 1 else c)
def altGo (xs : List TPlace) : List Int → Int → Int
  | [], c => c
  | [_], c => c
  | p :: q :: ps, c => altGo xs (q :: ps) (if isL xs p = isL xs q then c else c + 1)
open Classical in
noncomputable def M_HandsOf (xs : List TPlace) (lay text : ByteArray) : Int × Int × Int :=
  if BoardOk xs ∧ StrokesB xs lay text then (leftsGo xs (idxs lay text) 0, (text.size : Int) - leftsGo xs (idxs lay text) 0, 0) else (0, 0, codeL xs lay text)
open Classical in
noncomputable def M_AlternationsOf (xs : List TPlace) (lay text : ByteArray) : Int × Int :=
  if BoardOk xs ∧ StrokesB xs lay text then (altGo xs (idxs lay text) 0, 0) else (0, codeL xs lay text)
theorem stroke_at {xs : List TPlace} {lay text : ByteArray} (h : StrokesB xs lay text) (k : Nat) (hk : k < text.size) : ∃ p : Nat, ∃ hp : p < xs.length, idx lay text[k] = p ∧ (idxs lay text)[k]'(by rw [idxs_len]; exact hk) = p := by
  have h0 := h.2.2 k hk
  have h1 := idx_bd lay text[k]
  have h2 := h.1.1
  refine ⟨(idx lay text[k]).toNat, by omega, by omega, ?_⟩
  rw [idxs_get lay text k hk]
  omega
theorem lefts_step (xs : List TPlace) (ps : List Int) (k : Nat) (h : k < ps.length) (c : Int) : leftsGo xs (ps.drop k) c = leftsGo xs (ps.drop (k + 1)) (if isL xs ps[k] = true then c + 1 else c) := by
  rw [List.drop_eq_getElem_cons h]; rfl
theorem alt_step (xs : List TPlace) (ps : List Int) (k : Nat) (h1 : 1 ≤ k) (h : k < ps.length) (c : Int) : altGo xs (ps.drop (k - 1)) c = altGo xs (ps.drop k) (if isL xs (ps[k - 1]'(by omega)) = isL xs ps[k] then c else c + 1) := by
  rw [List.drop_eq_getElem_cons (show k - 1 < ps.length by omega), show k - 1 + 1 = k from by omega, List.drop_eq_getElem_cons h]; rfl
theorem alt_end (xs : List TPlace) (ps : List Int) (k : Nat) (h1 : 1 ≤ k) (h : ps.length ≤ k) (c : Int) : altGo xs (ps.drop (k - 1)) c = c := by
  rcases Nat.lt_or_ge (k - 1) ps.length with h2 | h2
  · rw [List.drop_eq_getElem_cons h2, List.drop_of_length_le (by omega)]; rfl
  · rw [List.drop_of_length_le h2]; rfl
set_option maxHeartbeats 6400000 in
set_option maxRecDepth 10000 in
theorem impl_HandsOf_any (A : Option Addr) (c : Nat) (xs : List TPlace) (hx : xs.length ≤ 1048576) (hk : ∀ x ∈ xs, KPlace x) (lay : ByteArray) (hl : lay.size ≤ 1048576) (text : ByteArray) (ht : text.size ≤ 1048576) (w : World) (rx : Row w A encPlace 3 xs) :
    Calls Try.prog 35 #[.slice A xs.length c, .string lay, .string text] w (RI3 (M_HandsOf xs lay text) w) := by
  by_cases hS : BoardOk xs ∧ StrokesB xs lay text
  case neg =>
    have HM := Lib.hid (show M_HandsOf xs lay text = (0, 0, codeL xs lay text) by unfold M_HandsOf; rw [if_neg hS])
    have hne := codeL_ne hS
    have hbd := codeL_bd xs lay text
    obtain ⟨hbd1, hbd2⟩ := hbd
    have HS := Lib.hid hS
    clear hS
    go_enter Try.func35, Try.ntmps35
    go_wp2_with fail
    refine (strokesOf_any _ _ xs hx hk lay hl text ht _ rx).mono ?_; rintro e w1 ⟨hb1, h1⟩
    rcases h1 with ⟨h1, _⟩ | ⟨_, n, rfl, hn⟩
    · exact absurd h1 HS.out
    rw [← hn] at hne hbd1 hbd2
    have HN := Lib.hid hn
    have tn : (n != 0) = true := by rw [bne_iff_ne]; exact hne
    clear hn hne
    go_wp2_with fail
    go_ret3
    exact RI3.mk (by rw [HM.out, HN.out]) hb1
  have hB := hS.1
  have hT := hS.2
  have h400 := hT.2.1
  have hls := hT.1.1
  have hx6 := hB.1.2
  have HLS := Lib.hid hls
  clear hls
  obtain ⟨R, hR⟩ : ∃ R, R = leftsGo xs (idxs lay text) 0 := ⟨_, rfl⟩
  have HM := Lib.hid (show M_HandsOf xs lay text = (R, (text.size : Int) - R, 0) by unfold M_HandsOf; rw [if_pos hS, hR])
  have HR := Lib.hid hR
  clear hR
  go_enter Try.func35, Try.ntmps35
  go_wp2_with fail
  refine (strokesOf_any _ _ xs hx hk lay hl text ht _ rx).mono ?_; rintro e w1 ⟨hb1, h1⟩
  rcases h1 with ⟨_, v, rfl, hown⟩ | ⟨h1, _⟩
  case inr => exact absurd hS h1
  obtain ⟨A2, c2, rfl, ry, hob⟩ := hown.form
  have hpl : (idxs lay text).length = text.size := idxs_len lay text
  have hpl2 : ((idxs lay text).length : Int) = (text.size : Int) := by rw [hpl]
  rw [hpl] at hown ⊢
  have HPL := Lib.hid hpl
  clear hob hpl hpl2
  go_wp2_with fail
  go_loopg [11, 26] text.size (fun g cs is wr => ∃ (k : Nat) (cn : Int), k ≤ text.size ∧ g = text.size - k ∧ 0 ≤ cn ∧ cn ≤ k ∧ leftsGo xs ((idxs lay text).drop k) cn = R ∧ Below w1.heap.size w1 wr ∧ cs = .int .i64 cn ∧ is = .int .i64 k)
  case atStart => exact ⟨0, 0, Nat.zero_le _, rfl, by omega, by omega, HR.out.symm, Below.refl _ _, rfl, rfl⟩
  case round =>
    obtain ⟨k, cn, hkk, hg, hc0, hc9, hgo, hbw, rfl, rfl⟩ := hrel
    have HG := Lib.hid hg
    clear hg
    by_cases hlt : k < text.size
    · obtain ⟨p, hp, hp1, hp2⟩ := stroke_at hT k hlt
      rw [lefts_step xs _ k (by rw [idxs_len]; exact hlt), hp2, isL_at xs p hp] at hgo
      have hc3 := UInt8.toNat_lt text[k]
      have i1 : (0 : Int) ≤ (k : Int) := by omega
      have i2 : (k : Int) < (text.size : Int) := by omega
      have i3 : (0 : Int) ≤ (p : Int) := by omega
      have i4 : (p : Int) < (xs.length : Int) := by omega
      have HP1 := Lib.hid hp1
      have hB2 := bnext hb1 hbw
      obtain ⟨b, off, hA, hbb, c0, c1, c2'⟩ := (rx.below hB2).at3 (f := fun x : TPlace => .int .i64 x.1) (g := fun x : TPlace => .int .i64 x.2.1) (i := fun x : TPlace => .int .i64 x.2.2) hp
      subst hA
      obtain ⟨b3, off3, hA3, hb3, d0⟩ := (ry.below hbw).at1 (f := fun x : Int => .int .i64 x) (k := k) (by rw [idxs_len]; exact hlt)
      subst hA3
      rw [hp2] at d0
      clear hp1 hp2
      generalize xs[p] = x at *
      obtain ⟨p1, p2, p3⟩ := x
      simp only at c0 c1 c2' hgo
      by_cases hL : p1 ≤ 3
      · have hd : decide (p1 ≤ 3) = true := by exact decide_eq_true hL
        rw [hd, if_pos rfl] at hgo
        have HF := Lib.hid hgo
        clear hgo hL
        go_wp2_with (go_at_call 81; refine (isLeft_any p1 p2 p3 _).mono ?_; rintro e w5 ⟨rfl, hb5⟩)
        go_roundg (text.size - (k + 1))
        case measure => rw [HG.out]; omega
        case rel => exact ⟨k + 1, cn + 1, by omega, rfl, by omega, by omega, HF.out, bnext hbw hb5, by go_num, by go_num⟩
      · have hd : decide (p1 ≤ 3) = false := by exact decide_eq_false hL
        rw [hd, if_neg (by simp)] at hgo
        have HF := Lib.hid hgo
        clear hgo hL
        go_wp2_with (go_at_call 81; refine (isLeft_any p1 p2 p3 _).mono ?_; rintro e w5 ⟨rfl, hb5⟩)
        go_roundg (text.size - (k + 1))
        case measure => rw [HG.out]; omega
        case rel => exact ⟨k + 1, cn, by omega, rfl, by omega, by omega, HF.out, bnext hbw hb5, by go_num, by go_num⟩
    · have hfin : cn = R := by
        rw [List.drop_of_length_le (by rw [idxs_len]; omega)] at hgo; exact hgo
      have HF := Lib.hid hfin
      have hfin2 : (k : Int) = text.size := by omega
      clear hfin hgo
      go_wp2_with fail
      go_ret3
      exact RI3.mk (by rw [HM.out, ← HF.out]) (bnext hb1 hbw)
set_option maxHeartbeats 6400000 in
set_option maxRecDepth 10000 in
theorem spec_HandsOf_any (A : Option Addr) (c : Nat) (xs : List TPlace) (hx : xs.length ≤ 1048576) (hk : ∀ x ∈ xs, KPlace x) (lay : ByteArray) (hl : lay.size ≤ 1048576) (text : ByteArray) (ht : text.size ≤ 1048576) (w : World) (rx : Row w A encPlace 3 xs) :
    Calls Try.prog 33 #[.slice A xs.length c, .string lay, .string text] w (RI3 (M_HandsOf xs lay text) w) := by
  by_cases hS : BoardOk xs ∧ StrokesB xs lay text
  case neg =>
    have HM := Lib.hid (show M_HandsOf xs lay text = (0, 0, codeL xs lay text) by unfold M_HandsOf; rw [if_neg hS])
    have hne := codeL_ne hS
    have hbd := codeL_bd xs lay text
    obtain ⟨hbd1, hbd2⟩ := hbd
    have HS := Lib.hid hS
    clear hS
    go_enter Try.func33, Try.ntmps33
    go_wp2_with fail
    refine (l07Code_any _ _ xs hx hk lay hl text ht _ rx).mono ?_; rintro e w1 ⟨n, rfl, hn, hb1⟩
    rw [← hn] at hne hbd1 hbd2
    have HN := Lib.hid hn
    have tn : (n != 0) = true := by rw [bne_iff_ne]; exact hne
    clear hn hne
    go_wp2_with fail
    go_ret3
    exact RI3.mk (by rw [HM.out, HN.out]) hb1
  have hB := hS.1
  have hT := hS.2
  have h400 := hT.2.1
  have hls := hT.1.1
  have hx6 := hB.1.2
  have HLS := Lib.hid hls
  clear hls
  obtain ⟨R, hR⟩ : ∃ R, R = leftsGo xs (idxs lay text) 0 := ⟨_, rfl⟩
  have HM := Lib.hid (show M_HandsOf xs lay text = (R, (text.size : Int) - R, 0) by unfold M_HandsOf; rw [if_pos hS, hR])
  have HR := Lib.hid hR
  clear hR
  go_enter Try.func33, Try.ntmps33
  go_wp2_with fail
  refine (l07Code_any _ _ xs hx hk lay hl text ht _ rx).mono ?_; rintro e w1 ⟨n, rfl, hn, hb1⟩
  replace hn := hn.trans (codeL_zero hB hT)
  subst hn
  go_wp2_with fail
  go_loopg [10, 11] text.size (fun g cs is wr => ∃ (k : Nat) (cn : Int), k ≤ text.size ∧ g = text.size - k ∧ 0 ≤ cn ∧ cn ≤ k ∧ leftsGo xs ((idxs lay text).drop k) cn = R ∧ Below w1.heap.size w1 wr ∧ cs = .int .i64 cn ∧ is = .int .i64 k)
  case atStart => exact ⟨0, 0, Nat.zero_le _, rfl, by omega, by omega, HR.out.symm, Below.refl _ _, rfl, rfl⟩
  case round =>
    obtain ⟨k, cn, hkk, hg, hc0, hc9, hgo, hbw, rfl, rfl⟩ := hrel
    have HG := Lib.hid hg
    clear hg
    by_cases hlt : k < text.size
    · obtain ⟨p, hp, hp1, hp2⟩ := stroke_at hT k hlt
      rw [lefts_step xs _ k (by rw [idxs_len]; exact hlt), hp2, isL_at xs p hp] at hgo
      have hc3 := UInt8.toNat_lt text[k]
      have i1 : (0 : Int) ≤ (k : Int) := by omega
      have i2 : (k : Int) < (text.size : Int) := by omega
      have i3 : (0 : Int) ≤ (p : Int) := by omega
      have i4 : (p : Int) < (xs.length : Int) := by omega
      have HP1 := Lib.hid hp1
      have hB2 := bnext hb1 hbw
      obtain ⟨b, off, hA, hbb, c0, c1, c2'⟩ := (rx.below hB2).at3 (f := fun x : TPlace => .int .i64 x.1) (g := fun x : TPlace => .int .i64 x.2.1) (i := fun x : TPlace => .int .i64 x.2.2) hp
      subst hA
      clear hp1 hp2
      generalize xs[p] = x at *
      obtain ⟨p1, p2, p3⟩ := x
      simp only at c0 c1 c2' hgo
      by_cases hL : p1 ≤ 3
      · have hd : decide (p1 ≤ 3) = true := by exact decide_eq_true hL
        rw [hd, if_pos rfl] at hgo
        have HF := Lib.hid hgo
        clear hgo hL
        go_wp2_with (first | (go_at_call 78; refine (l05_at HP1.out (l05Index_any lay hl text[k] _)).mono ?_; rintro e w4 ⟨rfl, rfl⟩) | (go_at_call 77; refine (l07Left_any p1 _).mono ?_; rintro e w5 ⟨rfl, rfl⟩))
        go_roundg (text.size - (k + 1))
        case measure => rw [HG.out]; omega
        case rel => exact ⟨k + 1, cn + 1, by omega, rfl, by omega, by omega, HF.out, hbw, by go_num, by go_num⟩
      · have hd : decide (p1 ≤ 3) = false := by exact decide_eq_false hL
        rw [hd, if_neg (by simp)] at hgo
        have HF := Lib.hid hgo
        clear hgo hL
        go_wp2_with (first | (go_at_call 78; refine (l05_at HP1.out (l05Index_any lay hl text[k] _)).mono ?_; rintro e w4 ⟨rfl, rfl⟩) | (go_at_call 77; refine (l07Left_any p1 _).mono ?_; rintro e w5 ⟨rfl, rfl⟩))
        go_roundg (text.size - (k + 1))
        case measure => rw [HG.out]; omega
        case rel => exact ⟨k + 1, cn, by omega, rfl, by omega, by omega, HF.out, hbw, by go_num, by go_num⟩
    · have hfin : cn = R := by
        rw [List.drop_of_length_le (by rw [idxs_len]; omega)] at hgo; exact hgo
      have HF := Lib.hid hfin
      have hfin2 : (k : Int) = text.size := by omega
      clear hfin hgo
      go_wp2_with fail
      go_ret3
      exact RI3.mk (by rw [HM.out, ← HF.out]) (bnext hb1 hbw)
end Go.Proofs.Ytemaheoebigkgaa
