/-
  FFingers: how many strokes each finger does: spec and impl.
-/
import Derived.Test.YtbcomfobnhekpaaFPlaces
namespace Go.Proofs.Ytbcomfobnhekpaa
open Go.RowKit
set_option linter.unusedVariables false
attribute [local go_sem ↓] Go.wp_at_zero Go.wp_at_succ
theorem l05_at {s : ByteArray} {c : UInt8} {p : Nat} (h : idx s c = p) {P : Program} {f : FuncId} {args : Array Value} {w : World} (hc : Calls P f args w fun e w' => e = .returned (.int .i64 (idx s c)) ∧ w = w') :
    Calls P f args w fun e w' => e = .returned (.int .i64 (p : Int)) ∧ w = w' := by rw [h] at hc; exact hc
theorem stroke_at {xs : List TPlace} {lay text : ByteArray} (h : StrokesB xs lay text) (k : Nat) (hk : k < text.size) : ∃ p : Nat, ∃ hp : p < xs.length, idx lay text[k] = p ∧ (idxs lay text)[k]'(by rw [idxs_len]; exact hk) = p := by
  have h0 := h.2.2 k hk
  have h1 := idx_bd lay text[k]
  have h2 := h.1.1
  refine ⟨(idx lay text[k]).toNat, by omega, by omega, ?_⟩
  rw [idxs_get lay text k hk]
  omega
def plAt (xs : List TPlace) (p : Int) : TPlace := xs.getD p.toNat (0, 0, 0)
theorem plAt_eq (xs : List TPlace) (p : Nat) (h : p < xs.length) : plAt xs (p : Int) = xs[p] := by
  unfold plAt
  rw [Int.toNat_natCast, List.getD_eq_getElem?_getD, List.getElem?_eq_getElem h]; rfl
def fingGo (xs : List TPlace) : List Int → List Int → List Int
  | [], cs => cs
  | p :: ps, cs => fingGo xs ps (cs.set (plAt xs p).1.toNat (cs.getD (plAt xs p).1.toNat 0 + 1))
def fingersL (xs : List TPlace) (ps : List Int) : List Int := fingGo xs ps (List.replicate 8 0)
theorem fingGo_len (xs : List TPlace) : ∀ (ps cs : List Int), (fingGo xs ps cs).length = cs.length
  | [], cs => rfl
  | p :: ps, cs => by unfold fingGo; rw [fingGo_len xs ps, List.length_set]
open Classical in
noncomputable def M_FingersOf (xs : List TPlace) (lay text : ByteArray) : List Int × Int :=
  if BoardOk xs ∧ StrokesB xs lay text then (fingersL xs (idxs lay text), 0) else ([], codeL xs lay text)
theorem fing_step (xs : List TPlace) (ps cs : List Int) (k : Nat) (h : k < ps.length) (p : Nat) (hp : p < xs.length) (he : ps[k] = p) (f : Nat) (hf : xs[p].1 = f) (hf8 : f < cs.length) :
    fingGo xs (ps.drop k) cs = fingGo xs (ps.drop (k + 1)) (cs.set f (cs[f] + 1)) := by
  rw [List.drop_eq_getElem_cons h]
  show fingGo xs (ps.drop (k + 1)) (cs.set (plAt xs ps[k]).1.toNat (cs.getD (plAt xs ps[k]).1.toNat 0 + 1)) = _
  rw [he, plAt_eq xs p hp, hf, Int.toNat_natCast, List.getD_eq_getElem?_getD, List.getElem?_eq_getElem hf8]
  rfl
theorem counts_next {cs : List Int} {k f : Nat} (hf : f < cs.length) (h : ∀ j (h : j < cs.length), 0 ≤ cs[j] ∧ cs[j] ≤ k) : ∀ j (h : j < (cs.set f (cs[f] + 1)).length), 0 ≤ (cs.set f (cs[f] + 1))[j] ∧ (cs.set f (cs[f] + 1))[j] ≤ ((k + 1 : Nat) : Int) := by
  intro j hj
  rw [List.length_set] at hj
  rw [List.getElem_set]
  have h1 := h f hf
  have h2 := h j hj
  split <;> omega
set_option maxHeartbeats 6400000 in
set_option maxRecDepth 10000 in
theorem impl_FingersOf_any (A : Option Addr) (c : Nat) (xs : List TPlace) (hx : xs.length ≤ 1048576) (hk : ∀ x ∈ xs, KPlace x) (lay : ByteArray) (hl : lay.size ≤ 1048576) (text : ByteArray) (ht : text.size ≤ 1048576) (w : World) (rx : Row w A encPlace 3 xs) :
    Calls Try.prog 55 #[.slice A xs.length c, .string lay, .string text] w (RLE encInt 1 2 (M_FingersOf xs lay text) w) := by
  by_cases hS : BoardOk xs ∧ StrokesB xs lay text
  case neg =>
    have HM := Lib.hid (show M_FingersOf xs lay text = ([], codeL xs lay text) by unfold M_FingersOf; rw [if_neg hS])
    have hne := codeL_ne hS
    have hbd := codeL_bd xs lay text
    obtain ⟨hbd1, hbd2⟩ := hbd
    have HS := Lib.hid hS
    clear hS
    go_enter Try.func55, Try.ntmps55
    go_wp2_with fail
    refine (strokesOf_any _ _ xs hx hk lay hl text ht _ rx).mono ?_; rintro e w1 ⟨hb1, h1⟩
    rcases h1 with ⟨h1, _⟩ | ⟨_, n, rfl, hn⟩
    · exact absurd h1 HS.out
    rw [← hn] at hne hbd1 hbd2
    have HN := Lib.hid hn
    have tn : (n != 0) = true := by rw [bne_iff_ne]; exact hne
    clear hn hne
    go_wp2_with fail
    go_ret2
    exact RLE.no (fun _ => rfl) (by rw [HM.out, HN.out]) hb1
  have hB := hS.1
  have hT := hS.2
  have h400 := hT.2.1
  have hls := hT.1.1
  have hx6 := hB.1.2
  have HLS := Lib.hid hls
  clear hls
  obtain ⟨R, hR⟩ : ∃ R, R = fingersL xs (idxs lay text) := ⟨_, rfl⟩
  have HM := Lib.hid (show M_FingersOf xs lay text = (R, 0) by unfold M_FingersOf; rw [if_pos hS, hR])
  have hRl : R.length = 8 := by rw [hR]; unfold fingersL; rw [fingGo_len]; simp
  have HRl := Lib.hid hRl
  have HR := Lib.hid hR
  clear hR hRl
  obtain ⟨i0, hi, hz, hsz, hby⟩ := info_parts info_Int64S
  have hmk : ∀ W : World, (Instr.makeSlice 29 (.int .i64 8) (.int .i64 8)).run Try.prog W = .ok (.slice (some ⟨W.heap.size, 0, none⟩) 8 8) (W.alloc (.cells (madeCells (encInt 0).toArray (8 * i0.size)) 2)) := fun W => run_make_rowN (P := Try.prog) 29 2 i0 _ Try.underlying29 hi hz .i64 .i64 8 8 (Nat.le_refl _) (by rw [hby]; omega) (by omega) W
  rw [hsz] at hmk
  go_enter Try.func55, Try.ntmps55
  go_wp2_with fail
  refine (strokesOf_any _ _ xs hx hk lay hl text ht _ rx).mono ?_; rintro e w1 ⟨hb1, h1⟩
  rcases h1 with ⟨_, v, rfl, hown⟩ | ⟨h1, _⟩
  case inr => exact absurd hS h1
  obtain ⟨A2, c2, rfl, ry, hob⟩ := hown.form
  have hpl : (idxs lay text).length = text.size := idxs_len lay text
  have hpl2 : ((idxs lay text).length : Int) = (text.size : Int) := by rw [hpl]
  rw [hpl] at hown ⊢
  have HPL := Lib.hid hpl
  clear hob hpl hpl2
  have om : Own (w1.alloc (.cells (madeCells (encInt 0).toArray (8 * 1)) 2)) w1.heap.size 2 encInt 1 (.slice (some ⟨w1.heap.size, 0, none⟩) 8 8) (List.replicate 8 0) := Own.made (e := encInt) w1 (fun _ => rfl) w1.heap.size 2 0 8 (Nat.le_refl _) (by unfold maxLen; omega)
  have hBm : Below w1.heap.size w1 (w1.alloc (.cells (madeCells (encInt 0).toArray (8 * 1)) 2)) := bal (Below.refl _ _) _
  go_wp2_with fail
  go_loopg [26] text.size (fun g is wr => ∃ (k : Nat) (cs : List Int), k ≤ text.size ∧ g = text.size - k ∧ cs.length = 8 ∧ (∀ j (h : j < cs.length), 0 ≤ cs[j] ∧ cs[j] ≤ k) ∧ fingGo xs ((idxs lay text).drop k) cs = R ∧ Own wr w1.heap.size 2 encInt 1 (.slice (some ⟨w1.heap.size, 0, none⟩) 8 8) cs ∧ Below w1.heap.size w1 wr ∧ is = .int .i64 k)
  case atStart => exact ⟨0, List.replicate 8 0, Nat.zero_le _, rfl, by simp, fun j h => by rw [List.getElem_replicate]; omega, HR.out.symm, om, hBm, rfl⟩
  case round =>
    obtain ⟨k, cs, hkk, hg, hcl, hcs, hgo, hcw, hbw, rfl⟩ := hrel
    have HG := Lib.hid hg
    have HCl := Lib.hid hcl
    have HCs := Lib.hid hcs
    clear hg hcl hcs
    by_cases hlt : k < text.size
    · obtain ⟨p, hp, hp1, hp2⟩ := stroke_at hT k hlt
      have hc3 := UInt8.toNat_lt text[k]
      have i1 : (0 : Int) ≤ (k : Int) := by omega
      have i2 : (k : Int) < (text.size : Int) := by omega
      have i3 : (0 : Int) ≤ (p : Int) := by omega
      have i4 : (p : Int) < (xs.length : Int) := by omega
      have hpo := hB.2 _ (List.getElem_mem hp)
      have hB2 := bnext hb1 hbw
      obtain ⟨f, hf⟩ := Int.eq_ofNat_of_zero_le hpo.1.1
      have hf8 : f < cs.length := by have := hpo.1.2; rw [HCl.out]; omega
      have hf9 : f < 8 := by have := HCl.out; omega
      have hfI : (f : Int) < 8 := by omega
      have hfI0 : (0 : Int) ≤ (f : Int) := by omega
      rw [fing_step xs _ cs k (by rw [idxs_len]; exact hlt) p hp hp2 f hf hf8] at hgo
      have HF := Lib.hid hgo
      have HP1 := Lib.hid hp1
      obtain ⟨b, off, hA, hbb, c0, c1, c2'⟩ := (rx.below hB2).at3 (f := fun x : TPlace => .int .i64 x.1) (g := fun x : TPlace => .int .i64 x.2.1) (i := fun x : TPlace => .int .i64 x.2.2) hp
      subst hA
      obtain ⟨b3, off3, hA3, hb3, d0⟩ := (ry.below hbw).at1 (f := fun x : Int => .int .i64 x) (k := k) (by rw [idxs_len]; exact hlt)
      subst hA3
      rw [hp2] at d0
      rw [hf] at c0
      have hcf := HCs.out f hf8
      obtain ⟨hcf0, hcf9⟩ := hcf
      have e0 : wr.cell? ⟨w1.heap.size, f, none⟩ = some (.int .i64 cs[f]) := by have := hcw.cell (j := 0) hf8 rfl; simpa using this
      have z0 := hcw.frozen f
      have o2 := hcw.store1 (f := fun x : Int => .int .i64 x) hf8 (cs[f] + 1)
      have HO := Lib.hid o2
      have HF0 := Lib.hid hf
      clear hgo hp1 hp2 hpo hf o2
      go_wp2_with fail
      go_roundg (text.size - (k + 1))
      case measure => rw [HG.out]; omega
      case rel => exact ⟨k + 1, cs.set f (cs[f] + 1), by omega, rfl, by rw [List.length_set]; exact HCl.out, counts_next hf8 HCs.out, HF.out, HO.out, hbw.setCell (Nat.le_refl _) _, by go_num⟩
    · have hfin : cs = R := by
        rw [List.drop_of_length_le (by rw [idxs_len]; omega)] at hgo; exact hgo
      subst hfin
      clear hgo
      go_wp2_with fail
      go_ret2
      exact RLE.mk HM.out.symm (by rw [HCl.out]; omega) (hcw.mono hb1.size) (bnext hb1 hbw)
set_option maxHeartbeats 6400000 in
set_option maxRecDepth 10000 in
theorem spec_FingersOf_any (A : Option Addr) (c : Nat) (xs : List TPlace) (hx : xs.length ≤ 1048576) (hk : ∀ x ∈ xs, KPlace x) (lay : ByteArray) (hl : lay.size ≤ 1048576) (text : ByteArray) (ht : text.size ≤ 1048576) (w : World) (rx : Row w A encPlace 3 xs) :
    Calls Try.prog 53 #[.slice A xs.length c, .string lay, .string text] w (RLE encInt 1 2 (M_FingersOf xs lay text) w) := by
  by_cases hS : BoardOk xs ∧ StrokesB xs lay text
  case neg =>
    have HM := Lib.hid (show M_FingersOf xs lay text = ([], codeL xs lay text) by unfold M_FingersOf; rw [if_neg hS])
    have hne := codeL_ne hS
    have hbd := codeL_bd xs lay text
    obtain ⟨hbd1, hbd2⟩ := hbd
    have HS := Lib.hid hS
    clear hS
    go_enter Try.func53, Try.ntmps53
    go_wp2_with fail
    refine (l07Code_any _ _ xs hx hk lay hl text ht _ rx).mono ?_; rintro e w1 ⟨n, rfl, hn, hb1⟩
    rw [← hn] at hne hbd1 hbd2
    have HN := Lib.hid hn
    have tn : (n != 0) = true := by rw [bne_iff_ne]; exact hne
    clear hn hne
    go_wp2_with fail
    go_ret2
    exact RLE.no (fun _ => rfl) (by rw [HM.out, HN.out]) hb1
  have hB := hS.1
  have hT := hS.2
  have h400 := hT.2.1
  have hls := hT.1.1
  have hx6 := hB.1.2
  have HLS := Lib.hid hls
  clear hls
  obtain ⟨R, hR⟩ : ∃ R, R = fingersL xs (idxs lay text) := ⟨_, rfl⟩
  have HM := Lib.hid (show M_FingersOf xs lay text = (R, 0) by unfold M_FingersOf; rw [if_pos hS, hR])
  have hRl : R.length = 8 := by rw [hR]; unfold fingersL; rw [fingGo_len]; simp
  have HRl := Lib.hid hRl
  have HR := Lib.hid hR
  clear hR hRl
  obtain ⟨i0, hi, hz, hsz, hby⟩ := info_parts info_Int64S
  have hmk : ∀ W : World, (Instr.makeSlice 29 (.int .i64 8) (.int .i64 8)).run Try.prog W = .ok (.slice (some ⟨W.heap.size, 0, none⟩) 8 8) (W.alloc (.cells (madeCells (encInt 0).toArray (8 * i0.size)) 2)) := fun W => run_make_rowN (P := Try.prog) 29 2 i0 _ Try.underlying29 hi hz .i64 .i64 8 8 (Nat.le_refl _) (by rw [hby]; omega) (by omega) W
  rw [hsz] at hmk
  go_enter Try.func53, Try.ntmps53
  go_wp2_with fail
  refine (l07Code_any _ _ xs hx hk lay hl text ht _ rx).mono ?_; rintro e w1 ⟨n, rfl, hn, hb1⟩
  replace hn := hn.trans (codeL_zero hB hT)
  subst hn
  have om : Own (w1.alloc (.cells (madeCells (encInt 0).toArray (8 * 1)) 2)) w1.heap.size 2 encInt 1 (.slice (some ⟨w1.heap.size, 0, none⟩) 8 8) (List.replicate 8 0) := Own.made (e := encInt) w1 (fun _ => rfl) w1.heap.size 2 0 8 (Nat.le_refl _) (by unfold maxLen; omega)
  have hBm : Below w1.heap.size w1 (w1.alloc (.cells (madeCells (encInt 0).toArray (8 * 1)) 2)) := bal (Below.refl _ _) _
  go_wp2_with fail
  go_loopg [10] text.size (fun g is wr => ∃ (k : Nat) (cs : List Int), k ≤ text.size ∧ g = text.size - k ∧ cs.length = 8 ∧ (∀ j (h : j < cs.length), 0 ≤ cs[j] ∧ cs[j] ≤ k) ∧ fingGo xs ((idxs lay text).drop k) cs = R ∧ Own wr w1.heap.size 2 encInt 1 (.slice (some ⟨w1.heap.size, 0, none⟩) 8 8) cs ∧ Below w1.heap.size w1 wr ∧ is = .int .i64 k)
  case atStart => exact ⟨0, List.replicate 8 0, Nat.zero_le _, rfl, by simp, fun j h => by rw [List.getElem_replicate]; omega, HR.out.symm, om, hBm, rfl⟩
  case round =>
    obtain ⟨k, cs, hkk, hg, hcl, hcs, hgo, hcw, hbw, rfl⟩ := hrel
    have HG := Lib.hid hg
    have HCl := Lib.hid hcl
    have HCs := Lib.hid hcs
    clear hg hcl hcs
    by_cases hlt : k < text.size
    · obtain ⟨p, hp, hp1, hp2⟩ := stroke_at hT k hlt
      have hc3 := UInt8.toNat_lt text[k]
      have i1 : (0 : Int) ≤ (k : Int) := by omega
      have i2 : (k : Int) < (text.size : Int) := by omega
      have i3 : (0 : Int) ≤ (p : Int) := by omega
      have i4 : (p : Int) < (xs.length : Int) := by omega
      have hpo := hB.2 _ (List.getElem_mem hp)
      have hB2 := bnext hb1 hbw
      obtain ⟨f, hf⟩ := Int.eq_ofNat_of_zero_le hpo.1.1
      have hf8 : f < cs.length := by have := hpo.1.2; rw [HCl.out]; omega
      have hf9 : f < 8 := by have := HCl.out; omega
      have hfI : (f : Int) < 8 := by omega
      have hfI0 : (0 : Int) ≤ (f : Int) := by omega
      rw [fing_step xs _ cs k (by rw [idxs_len]; exact hlt) p hp hp2 f hf hf8] at hgo
      have HF := Lib.hid hgo
      have HP1 := Lib.hid hp1
      obtain ⟨b, off, hA, hbb, c0, c1, c2'⟩ := (rx.below hB2).at3 (f := fun x : TPlace => .int .i64 x.1) (g := fun x : TPlace => .int .i64 x.2.1) (i := fun x : TPlace => .int .i64 x.2.2) hp
      subst hA
      rw [hf] at c0
      have hcf := HCs.out f hf8
      obtain ⟨hcf0, hcf9⟩ := hcf
      have e0 : wr.cell? ⟨w1.heap.size, f, none⟩ = some (.int .i64 cs[f]) := by have := hcw.cell (j := 0) hf8 rfl; simpa using this
      have z0 := hcw.frozen f
      have o2 := hcw.store1 (f := fun x : Int => .int .i64 x) hf8 (cs[f] + 1)
      have HO := Lib.hid o2
      have HF0 := Lib.hid hf
      clear hgo hp1 hp2 hpo hf o2
      go_wp2_with (go_at_call 106; refine (l05_at HP1.out (l05Index_any lay hl text[k] _)).mono ?_; rintro e w4 ⟨rfl, rfl⟩)
      go_roundg (text.size - (k + 1))
      case measure => rw [HG.out]; omega
      case rel => exact ⟨k + 1, cs.set f (cs[f] + 1), by omega, rfl, by rw [List.length_set]; exact HCl.out, counts_next hf8 HCs.out, HF.out, HO.out, hbw.setCell (Nat.le_refl _) _, by go_num⟩
    · have hfin : cs = R := by
        rw [List.drop_of_length_le (by rw [idxs_len]; omega)] at hgo; exact hgo
      subst hfin
      clear hgo
      go_wp2_with fail
      go_ret2
      exact RLE.mk HM.out.symm (by rw [HCl.out]; omega) (hcw.mono hb1.size) (bnext hb1 hbw)
end Go.Proofs.Ytbcomfobnhekpaa
