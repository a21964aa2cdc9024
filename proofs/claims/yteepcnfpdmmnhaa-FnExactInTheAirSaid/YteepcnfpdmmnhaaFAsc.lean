/-
  FAsc: texts of ascending bytes: spec.l02PutLetter, impl.ascending.
-/
import Derived.Test.YteepcnfpdmmnhaaApps
import Derived.Test.YteepcnfpdmmnhaaFText
import Derived.Laws.BytesArg
namespace Go.Proofs.Yteepcnfpdmmnhaa
open Go.RowKit
set_option linter.unusedVariables false
attribute [local go_sem ↓] Go.wp_at_zero Go.wp_at_succ
set_option linter.unusedSimpArgs false
def insB : List UInt8 → UInt8 → List UInt8
  | [], c => [c]
  | b :: bs, c => if b.toNat < c.toNat then b :: insB bs c else if b.toNat = c.toNat then b :: bs else c :: b :: bs
theorem insB_low : ∀ (xs ys : List UInt8) (c : UInt8), (∀ x ∈ xs, x.toNat < c.toNat) → insB (xs ++ ys) c = xs ++ insB ys c
  | [], ys, c, _ => rfl
  | x :: xs, ys, c, h => by
    rw [List.cons_append, insB, if_pos (h x (by simp)), insB_low xs ys c (fun y hy => h y (List.mem_cons_of_mem _ hy)), List.cons_append]
theorem insB_same (ys : List UInt8) (b c : UInt8) (h : b.toNat = c.toNat) : insB (b :: ys) c = b :: ys := by rw [insB, if_neg (by omega), if_pos h]
theorem insB_high (ys : List UInt8) (c : UInt8) (h : ∀ y ∈ ys, c.toNat < y.toNat) : insB ys c = c :: ys := by
  cases ys with
  | nil => rfl
  | cons y ys =>
    have := h y (by simp)
    rw [insB, if_neg (by omega), if_neg (by omega)]
theorem insB_head (y : UInt8) (ys : List UInt8) (c : UInt8) (h : c.toNat < y.toNat) : insB (y :: ys) c = c :: y :: ys := by rw [insB, if_neg (by omega), if_neg (by omega)]
theorem insB_len : ∀ (xs : List UInt8) (c : UInt8), (insB xs c).length ≤ xs.length + 1
  | [], c => by simp [insB]
  | x :: xs, c => by
    unfold insB
    split
    · have := insB_len xs c; simp only [List.length_cons]; omega
    · split <;> simp
/-- The marked bytes, ascending. -/
def ascB (f : Nat → Bool) : List UInt8 := ((List.range 256).filter f).map UInt8.ofNat
def ascS (f : Nat → Bool) : ByteArray := ⟨(ascB f).toArray⟩
theorem ascB_len (f : Nat → Bool) : (ascB f).length ≤ 256 := by
  unfold ascB
  rw [List.length_map]
  have := List.length_filter_le f (List.range 256)
  rwa [List.length_range] at this
theorem ascS_size (f : Nat → Bool) : (ascS f).size ≤ 256 := by
  have := ascB_len f
  simpa [ascS, ByteArray.size] using this
theorem range_cut (c : Nat) (hc : c < 256) : List.range 256 = List.range c ++ c :: List.range' (c + 1) (255 - c) := by
  rw [List.range_eq_range', List.range_eq_range', show 256 = c + (256 - c) by omega, ← List.range'_append_1, show 256 - c = (255 - c) + 1 by omega, List.range'_succ]
  simp
theorem ofNat_toNat (n : Nat) (h : n < 256) : (UInt8.ofNat n).toNat = n := by simp [UInt8.toNat_ofNat']; omega
theorem ascB_ins (f : Nat → Bool) (c : UInt8) : insB (ascB f) c = ascB (fun j => f j || c.toNat == j) := by
  have hc : c.toNat < 256 := UInt8.toNat_lt c
  unfold ascB
  have hlo : (List.range c.toNat).filter (fun j => f j || c.toNat == j) = (List.range c.toNat).filter f := List.filter_congr (fun j hj => by
    have := List.mem_range.1 hj
    have : (c.toNat == j) = false := by rw [beq_eq_false_iff_ne]; omega
    rw [this, Bool.or_false])
  have hhi : (List.range' (c.toNat + 1) (255 - c.toNat)).filter (fun j => f j || c.toNat == j) = (List.range' (c.toNat + 1) (255 - c.toNat)).filter f := List.filter_congr (fun j hj => by
    have := (List.mem_range'_1.1 hj).1
    have : (c.toNat == j) = false := by rw [beq_eq_false_iff_ne]; omega
    rw [this, Bool.or_false])
  have hcc : UInt8.ofNat c.toNat = c := by simp
  have h1 : ∀ x ∈ ((List.range c.toNat).filter f).map UInt8.ofNat, x.toNat < c.toNat := by
    intro x hx
    obtain ⟨j, hj, rfl⟩ := List.mem_map.1 hx
    have := List.mem_range.1 (List.mem_filter.1 hj).1
    rw [ofNat_toNat j (by omega)]; exact this
  have h2 : ∀ y ∈ ((List.range' (c.toNat + 1) (255 - c.toNat)).filter f).map UInt8.ofNat, c.toNat < y.toNat := by
    intro x hx
    obtain ⟨j, hj, rfl⟩ := List.mem_map.1 hx
    have := List.mem_range'_1.1 (List.mem_filter.1 hj).1
    rw [ofNat_toNat j (by omega)]; omega
  rw [range_cut c.toNat hc, List.filter_append, List.filter_append, hlo, List.map_append, List.map_append, insB_low _ _ _ h1, List.filter_cons, List.filter_cons, hhi]
  have hself : (f c.toNat || c.toNat == c.toNat) = true := by simp
  rw [if_pos hself]
  by_cases hf : f c.toNat = true
  · rw [if_pos hf, List.map_cons, hcc, insB_same _ _ _ rfl]
  · rw [if_neg hf, insB_high _ _ h2, List.map_cons, hcc]
theorem ascB_congr {f g : Nat → Bool} (h : ∀ j, j < 256 → f j = g j) : ascB f = ascB g := by
  unfold ascB
  rw [List.filter_congr (fun j hj => h j (List.mem_range.1 hj))]
theorem ascB_none : ascB (fun _ => false) = [] := by unfold ascB; rw [List.filter_eq_nil_iff.2 (fun _ _ => by simp)]; rfl
theorem ba_get (s : ByteArray) (k : Nat) (h : k < s.size) : s.data.toList[k]'(by simpa using h) = s[k] := rfl
theorem ba_ext {a b : ByteArray} (h : a.data.toList = b.data.toList) : a = b := tl_eq.1 (by rw [tl_data, tl_data]; exact h)
set_option maxHeartbeats 1600000 in
set_option maxRecDepth 10000 in
theorem l02PutLetter_any (L ch : ByteArray) (hL : L.size ≤ 1048576) (hc : ch.size = 1) (w : World) :
    Calls Try.prog 116 #[.string L, .string ch] w (RS1 ⟨(insB L.data.toList (ch[0]'(by omega))).toArray⟩ w) := by
  obtain ⟨c0, hc0⟩ : ∃ c0, ch[0]'(by omega) = c0 := ⟨_, rfl⟩
  have hch : ch = ⟨#[c0]⟩ := by
    apply ba_ext
    have h1 : ch.data.toList.length = 1 := by simpa using hc
    apply List.ext_getElem (by simpa using h1)
    intro i h2 h3
    have : i = 0 := by omega
    subst this
    exact hc0
  subst hch
  have hc1 : (⟨#[c0]⟩ : ByteArray)[0]'(by omega) = c0 := rfl
  rw [hc1]
  have hc2 : ((⟨#[c0]⟩ : ByteArray)[0]'(by omega)).toNat = c0.toNat := rfl
  have hcs : (⟨#[c0]⟩ : ByteArray).size = 1 := rfl
  obtain ⟨C, hC⟩ : ∃ C, C = (⟨#[c0]⟩ : ByteArray) := ⟨_, rfl⟩
  have HC := Lib.hid hC
  have hcc : ∀ h : 0 < C.size, C[0] = c0 := by subst hC; intro _; rfl
  have hC1 : C.size = 1 := by rw [hC]; rfl
  rw [← hC]
  have hb0 := UInt8.toNat_lt c0
  clear hC hc0 hc1 hc2 hcs hc
  obtain ⟨R, hR⟩ : ∃ R, R = insB L.data.toList c0 := ⟨_, rfl⟩
  have HR := Lib.hid hR
  rw [← hR]
  clear hR
  go_enter Try.func116, Try.ntmps116
  go_wp2_with fail
  go_loopg [5] L.size (fun g is wr => ∃ k : Nat, k ≤ L.size ∧ g = L.size - k ∧ (∀ x ∈ L.data.toList.take k, x.toNat < c0.toNat) ∧ Below w.heap.size w wr ∧ is = .int .i64 k)
  case atStart => exact ⟨0, Nat.zero_le _, rfl, fun x hx => by simp at hx, Below.refl _ _, rfl⟩
  case round =>
    obtain ⟨k, hk, hg, hlow, hbw, rfl⟩ := hrel
    have HG := Lib.hid hg
    have HLow := Lib.hid hlow
    clear hg hlow
    have i1 : (0 : Int) ≤ (k : Int) := by omega
    have i4 : (k : Int) ≤ (L.size : Int) := by omega
    have j1 : (0 : Int) < (C.size : Int) := by omega
    have hsplit : L.data.toList = L.data.toList.take k ++ L.data.toList.drop k := (List.take_append_drop k _).symm
    have hins : R = L.data.toList.take k ++ insB (L.data.toList.drop k) c0 := by
      have h0 := HR.out
      rw [hsplit, insB_low _ _ _ HLow.out] at h0
      exact h0
    have HIns := Lib.hid hins
    clear hins hsplit
    have hfin : (∀ q : List UInt8, insB (L.data.toList.drop k) c0 = c0 :: L.data.toList.drop k → L.extract 0 k ++ C ++ L.extract k L.size = ⟨R.toArray⟩) := by
      intro _ hq
      apply ba_ext
      rw [HIns.out, hq, HC.out]
      simp [ByteArray.data_append, ByteArray.data_extract, List.extract_eq_take_drop]
      exact List.take_of_length_le (by simp)
    have HFin := Lib.hid hfin
    clear hfin
    by_cases hlt : k < L.size
    · have i2 : (k : Int) < (L.size : Int) := by omega
      have ht : decide ((k : Int) < (L.size : Int)) = true := by simp; omega
      have hgk : L.data.toList.drop k = L[k] :: L.data.toList.drop (k + 1) := List.drop_eq_getElem_cons (by simpa using hlt)
      have hx := UInt8.toNat_lt L[k]
      by_cases h1 : L[k].toNat < c0.toNat
      · have t1 : decide (L[k].toNat < c0.toNat) = true := decide_eq_true h1
        have HN := Lib.hid (show ∀ x ∈ L.data.toList.take (k + 1), x.toNat < c0.toNat by
          rw [List.take_succ_eq_append_getElem (by simpa using hlt)]
          intro x hx
          rcases List.mem_append.1 hx with hm | hm
          · exact HLow.out x hm
          · simp only [List.mem_singleton] at hm
            subst hm
            exact h1)
        clear h1 hgk
        go_wp2_with (go_quiet (fail))
        go_roundg (L.size - (k + 1))
        case measure => rw [HG.out]; omega
        case rel => exact ⟨k + 1, by omega, rfl, HN.out, bdrewN hbw _, by go_num⟩
      · have t1 : decide (L[k].toNat < c0.toNat) = false := decide_eq_false h1
        by_cases h2 : L[k].toNat = c0.toNat
        · have t2' : (L[k].toNat == c0.toNat) = true := by rw [h2]; simp
          have t2 : (((L[k].toNat : Nat) : Int) == ((c0.toNat : Nat) : Int)) = true := by rw [h2]; simp
          have HF := Lib.hid (show L = ⟨R.toArray⟩ by
            apply ba_ext
            rw [HIns.out, hgk, insB_same _ _ _ h2, ← hgk]
            simp)
          clear h1 h2 hgk
          go_wp2_with (go_quiet (fail))
          go_wp2_with (go_quiet (fail))
          go_ret
          exact RS1.mk HF.out (bdrewN (bdrewN hbw _) _)
        · have t2 : (((L[k].toNat : Nat) : Int) == ((c0.toNat : Nat) : Int)) = false := by rw [beq_eq_false_iff_ne]; omega
          have t2' : (L[k].toNat == c0.toNat) = false := by rw [beq_eq_false_iff_ne]; omega
          have HF := Lib.hid (HFin.out [] (by rw [hgk]; exact insB_head _ _ _ (by omega)))
          clear h1 h2 hgk
          go_wp2_with (go_quiet (fail))
          go_wp2_with (go_quiet (fail))
          go_wp2_with (go_quiet (fail))
          go_ret
          exact RS1.mk HF.out (bdrewN (bdrewN (bdrewN hbw _) _) _)
    · have ht : decide ((k : Int) < (L.size : Int)) = false := by simp; omega
      have HF := Lib.hid (HFin.out [] (by rw [List.drop_of_length_le (by simp; omega)]; rfl))
      go_wp2_with (go_quiet (fail))
      go_wp2_with (go_quiet (fail))
      go_wp2_with (go_quiet (fail))
      go_ret
      exact RS1.mk HF.out (bdrewN (bdrewN (bdrewN hbw _) _) _)
abbrev encY : Int → List Value := fun x => [.int .u8 x]
theorem infoY : (Try.prog.info? 5).map (fun i => (i.zero, i.size, i.bytes)) = some (some (.int .u8 0), 1, 1) := by kernel_rfl
theorem conv_ownY {P : Program} {w : World} {base : Nat} {E : TypeId} {v : Value} {l : List Int} (h : Own w base E encY 1 v l) (src e : TypeId) (hs : P.underlying src = some (.slice e)) (he : P.underlying e = some (.int .u8)) (dst : TypeId) (hd : P.underlying dst = some .string) :
    (convert src dst v).run P w = .ok (.string (strOfNums l)) w := by
  rcases h.2.2 with ⟨rfl, h0⟩ | ⟨g, cap, cs, rfl, _⟩
  · have : l = [] := List.eq_nil_of_length_eq_zero h0
    subst this
    exact run_convert_bytes_nil w src e hs he _ _ dst hd
  · refine run_convert_bytes_arg w src e hs he g 0 _ cap l rfl (fun i hi => ?_) dst hd
    have := h.cell (k := i) (j := 0) hi rfl
    rw [List.getD_eq_getElem?_getD, List.getElem?_eq_getElem hi]
    simpa using this
def ascN (f : Nat → Bool) (i : Nat) : List Int := ((List.range i).filter f).map (fun n : Nat => (n : Int))
theorem ascN_succ (f : Nat → Bool) (i : Nat) : ascN f (i + 1) = if f i = true then ascN f i ++ [(i : Int)] else ascN f i := by
  unfold ascN
  rw [List.range_succ, List.filter_append, List.map_append]
  by_cases h : f i = true
  · rw [if_pos h]; simp [h]
  · rw [if_neg h]; simp [h]
theorem ascN_len (f : Nat → Bool) (i : Nat) : (ascN f i).length ≤ i := by
  unfold ascN
  rw [List.length_map]
  have := List.length_filter_le f (List.range i)
  rwa [List.length_range] at this
theorem ascN_str (f : Nat → Bool) : strOfNums (ascN f 256) = ascS f := by
  unfold strOfNums ascN ascS ascB
  rw [List.map_map]
  rfl
set_option maxHeartbeats 1600000 in
set_option maxRecDepth 10000 in
theorem ascending_any (b : Nat) (T : TypeId) (f : Nat → Bool) (w : World) (hlt : b < w.heap.size) (hrow : w.rowIs b T 256 (fun j => .bool (f j))) :
    Calls Try.prog 120 #[.pointer (some ⟨b, 0, none⟩)] w (RS1 (ascS f) w) := by
  obtain ⟨i0, hi0, hz, hsz, hby⟩ := info_parts infoY
  have HRow := Lib.hid hrow
  have o1 := Own.lit0 (e := encY) (s := 1) w (fun _ => rfl) w.heap.size 5 (Nat.le_refl _)
  have hBl : Below w.heap.size w (w.alloc (.cells #[] 5)) := bal (Below.refl _ _) _
  clear hrow
  go_enter Try.func120, Try.ntmps120
  go_wp2_with fail
  go_loopg [3, 6] 256 (fun g vs is wr => ∃ i : Nat, i ≤ 256 ∧ g = 256 - i ∧ Own wr w.heap.size 5 encY 1 vs (ascN f i) ∧ Below w.heap.size w wr ∧ is = .int .i64 i)
  case atStart => exact ⟨0, Nat.zero_le _, rfl, o1, hBl, rfl⟩
  case round =>
    obtain ⟨i, hi, hg, hown, hbw, rfl⟩ := hrel
    have HG := Lib.hid hg
    clear hg
    have hl := ascN_len f i
    by_cases hl2 : i < 256
    · have cell := (hbw.cell (p := ⟨b, i, none⟩) hlt).trans (HRow.out.cell (i := i) hl2)
      have hb2 := Nat.lt_of_lt_of_le hlt hbw.size
      have i1 : (0 : Int) ≤ (i : Int) := by omega
      have i2 : (i : Int) < 256 := by omega
      have hw8 : IntKind.u8.wrap (i : Int) = (i : Int) := IntWalk.u8_in _ (by omega)
      have hsucc := ascN_succ f i
      by_cases hf : f i = true
      · rw [if_pos hf] at hsucc
        have HS := Lib.hid hsucc
        rw [hf] at cell
        have o2 := hown.below (bal (Below.refl _ _) (.cells #[.int .u8 (i : Int)] 5))
        have hB2 := bal hbw (.cells #[.int .u8 (i : Int)] 5)
        clear hsucc hf
        go_wp2_with (at_builtin; refine app_own rfl _ _ 121 rfl w.heap.size 5 i0 _ 1 1 Try.underlying121 hi0 hz hsz hby rfl (by decide) _ (ascN f i) rfl o2 ⟨_, 0, none⟩ 1 (i : Int) rfl (cell_one_new _ _ _) (by simp [Value.oneCell']) (by unfold maxLen; omega) (by omega) hB2.size ?_; intro v2 w4 hown2 hg2)
        go_roundg (256 - (i + 1))
        case measure => rw [HG.out]; omega
        case rel =>
          have hb7 := below_own (B := w.heap.size) o2 hg2 (Nat.le_refl _) hB2.size
          exact ⟨i + 1, by omega, rfl, by rw [HS.out]; exact hown2, hB2.trans hb7, by go_num⟩
      · rw [if_neg hf] at hsucc
        have HS := Lib.hid hsucc
        rw [Bool.eq_false_iff.2 hf] at cell
        clear hsucc hf
        go_wp2_with fail
        go_roundg (256 - (i + 1))
        case measure => rw [HG.out]; omega
        case rel => exact ⟨i + 1, by omega, rfl, by rw [HS.out]; exact hown, hbw, by go_num⟩
    · have he : i = 256 := by omega
      subst he
      have hcv := conv_ownY (P := Try.prog) hown 121 5 Try.underlying121 Try.underlying5 9 Try.underlying9
      rw [ascN_str] at hcv
      go_wp2_with fail
      go_ret
      exact RS1.mk rfl hbw
end Go.Proofs.Yteepcnfpdmmnhaa
