/-
  FSplit: the parts of a text: spec.l01Split, spec.SplitWords, impl.SplitWords.
-/
import Derived.Test.YteepcnfpdmmnhaaApps
import Derived.Test.YteepcnfpdmmnhaaFLay
import Derived.Test.YteepcnfpdmmnhaaTStringS
namespace Go.Proofs.Yteepcnfpdmmnhaa
open Go.RowKit
set_option linter.unusedVariables false
attribute [local go_sem ↓] Go.wp_at_zero Go.wp_at_succ
/-- A list of the call's own: the given one; new blocks at most. -/
def RL1 {α : Type} (e0 : α → List Value) (s : Nat) (E : TypeId) (m : List α) (w : World) (e : Ending) (w' : World) : Prop :=
  ∃ (v : Value) (ys : List α), e = .returned v ∧ ys = m ∧ ys.length ≤ 1048576 ∧ Own w' w.heap.size E e0 s v ys ∧ Below w.heap.size w w'
theorem RL1.mk {α : Type} {e0 : α → List Value} {s : Nat} {E : TypeId} {m : List α} {v : Value} {ys : List α} {w w' : World} (h : ys = m) (hl : ys.length ≤ 1048576) (ho : Own w' w.heap.size E e0 s v ys) (hb : Below w.heap.size w w') :
    RL1 e0 s E m w (.returned v) w' := ⟨v, ys, rfl, h, hl, ho, hb⟩
/-- The parts from byte i on; the part at hand begins at f. -/
def spGo (s : ByteArray) (c : UInt8) : Nat → Nat → Nat → List ByteArray
  | 0, _, f => [s.extract f s.size]
  | n + 1, i, f => if s.data.toList.getD i 0 = c then s.extract f i :: spGo s c n (i + 1) (i + 1) else spGo s c n (i + 1) f
def splitL (s : ByteArray) (c : UInt8) : List ByteArray := spGo s c s.size 0 0
theorem bGet (s : ByteArray) (k : Nat) (h : k < s.size) : s.data.toList.getD k 0 = s[k] := by
  rw [List.getD_eq_getElem?_getD, List.getElem?_eq_getElem (by simpa using h)]; rfl
theorem sp_step (s : ByteArray) (c : UInt8) (i f : Nat) (h : i < s.size) : spGo s c (s.size - i) i f = if s[i] = c then s.extract f i :: spGo s c (s.size - (i + 1)) (i + 1) (i + 1) else spGo s c (s.size - (i + 1)) (i + 1) f := by
  rw [show s.size - i = (s.size - (i + 1)) + 1 by omega]
  rw [spGo, bGet s i h]
/-- The words from byte i on; st is where the word at hand begins, -1 without. -/
def wdGo (s : ByteArray) : Nat → Nat → Int → List ByteArray
  | 0, _, st => if 0 ≤ st then [s.extract st.toNat s.size] else []
  | n + 1, i, st => if s.data.toList.getD i 0 = 32 then (if 0 ≤ st then s.extract st.toNat i :: wdGo s n (i + 1) (-1) else wdGo s n (i + 1) st) else (if st < 0 then wdGo s n (i + 1) i else wdGo s n (i + 1) st)
theorem wd_step (s : ByteArray) (i : Nat) (st : Int) (h : i < s.size) : wdGo s (s.size - i) i st = if s[i] = 32 then (if 0 ≤ st then s.extract st.toNat i :: wdGo s (s.size - (i + 1)) (i + 1) (-1) else wdGo s (s.size - (i + 1)) (i + 1) st) else (if st < 0 then wdGo s (s.size - (i + 1)) (i + 1) i else wdGo s (s.size - (i + 1)) (i + 1) st) := by
  rw [show s.size - i = (s.size - (i + 1)) + 1 by omega]
  rw [wdGo, bGet s i h]
def full (p : ByteArray) : Bool := p.size != 0
def M_SplitWords (s : ByteArray) : List ByteArray := (splitL s 32).filter full
theorem full_no (s : ByteArray) (i : Nat) : full (s.extract i i) = false := by unfold full; rw [ByteArray.size_extract, show min i s.size - i = 0 by omega]; rfl
theorem full_yes (s : ByteArray) (f i : Nat) (h : f < i) (hi : i ≤ s.size) : full (s.extract f i) = true := by
  unfold full
  rw [ByteArray.size_extract, bne_iff_ne]
  omega
theorem wd_law (s : ByteArray) : ∀ (n i f : Nat) (st : Int), i + n = s.size → ((st = -1 ∧ f = i) ∨ (st = (f : Int) ∧ f < i)) → wdGo s n i st = (spGo s 32 n i f).filter full
  | 0, i, f, st, hn, h => by
    unfold wdGo spGo
    rcases h with ⟨rfl, rfl⟩ | ⟨rfl, hf⟩
    · rw [if_neg (by omega)]
      have : f = s.size := by omega
      subst this
      rw [List.filter_cons_of_neg (by rw [full_no]; decide), List.filter_nil]
    · rw [if_pos (by omega), List.filter_cons_of_pos (full_yes s f s.size (by omega) (Nat.le_refl _)), List.filter_nil, Int.toNat_natCast]
  | n + 1, i, f, st, hn, h => by
    unfold wdGo spGo
    by_cases hb : s.data.toList.getD i 0 = 32
    · rw [if_pos hb, if_pos hb]
      rcases h with ⟨rfl, rfl⟩ | ⟨rfl, hf⟩
      · rw [if_neg (by omega), List.filter_cons_of_neg (by rw [full_no]; decide)]
        exact wd_law s n (f + 1) (f + 1) (-1) (by omega) (.inl ⟨rfl, rfl⟩)
      · rw [if_pos (by omega), List.filter_cons_of_pos (full_yes s f i hf (by omega)), Int.toNat_natCast, wd_law s n (i + 1) (i + 1) (-1) (by omega) (.inl ⟨rfl, rfl⟩)]
    · rw [if_neg hb, if_neg hb]
      rcases h with ⟨rfl, rfl⟩ | ⟨rfl, hf⟩
      · rw [if_pos (by omega)]
        exact wd_law s n (f + 1) f f (by omega) (.inr ⟨rfl, by omega⟩)
      · rw [if_neg (by omega)]
        exact wd_law s n (i + 1) f f (by omega) (.inr ⟨rfl, by omega⟩)
theorem words_eq (s : ByteArray) : wdGo s s.size 0 (-1) = M_SplitWords s := wd_law s s.size 0 0 (-1) (by omega) (.inl ⟨rfl, rfl⟩)
theorem sp_len (s : ByteArray) (c : UInt8) : ∀ (n i f : Nat), (spGo s c n i f).length ≤ n + 1
  | 0, i, f => by simp [spGo]
  | n + 1, i, f => by
    unfold spGo
    split
    · rw [List.length_cons]; have := sp_len s c n (i + 1) (i + 1); omega
    · have := sp_len s c n (i + 1) f; omega
theorem wd_len (s : ByteArray) : ∀ (n i : Nat) (st : Int), (wdGo s n i st).length ≤ n + (if 0 ≤ st then 1 else 0)
  | 0, i, st => by unfold wdGo; split <;> simp
  | n + 1, i, st => by
    unfold wdGo
    split
    · by_cases h : 0 ≤ st
      · rw [if_pos h, if_pos h, List.length_cons]
        have := wd_len s n (i + 1) (-1)
        rw [if_neg (by omega)] at this
        omega
      · rw [if_neg h, if_neg h]
        have := wd_len s n (i + 1) st
        rw [if_neg h] at this
        omega
    · by_cases h : 0 ≤ st
      · rw [if_pos h, if_neg (by omega)]
        have := wd_len s n (i + 1) st
        rw [if_pos h] at this
        omega
      · rw [if_neg h, if_pos (by omega)]
        have := wd_len s n (i + 1) i
        rw [if_pos (by omega)] at this
        omega
theorem words_len (s : ByteArray) : (M_SplitWords s).length ≤ s.size := by
  rw [← words_eq]
  have := wd_len s s.size 0 (-1)
  rw [if_neg (by omega)] at this
  omega
set_option maxHeartbeats 3200000 in
set_option maxRecDepth 10000 in
theorem l01Split_any (s : ByteArray) (hs : s.size ≤ 1048576) (c : UInt8) (w : World) :
    Calls Try.prog 81 #[.string s, .int .u8 (c.toNat : Int)] w fun e w' => ∃ v, e = .returned v ∧ Own w' w.heap.size 9 encStr 1 v (splitL s c) ∧ Below w.heap.size w w' := by
  obtain ⟨i0, hi0, hz, hsz, hby⟩ := info_parts info_StringS
  obtain ⟨R, hR⟩ : ∃ R, R = splitL s c := ⟨_, rfl⟩
  rw [← hR]
  have HR := Lib.hid hR
  clear hR
  have o1 := Own.lit0 (e := encStr) (s := 1) w (fun _ => rfl) w.heap.size 9 (Nat.le_refl _)
  have hBl : Below w.heap.size w (w.alloc (.cells #[] 9)) := bal (Below.refl _ _) _
  go_enter Try.func81, Try.ntmps81
  go_wp2_with fail
  go_loopg [5, 6, 7] s.size (fun g vs fs is wr => ∃ (i f : Nat) (acc : List ByteArray), i ≤ s.size ∧ g = s.size - i ∧ f ≤ i ∧ acc.length ≤ i ∧ acc ++ spGo s c (s.size - i) i f = R ∧ Own wr w.heap.size 9 encStr 1 vs acc ∧ Below w.heap.size w wr ∧ fs = .int .i64 f ∧ is = .int .i64 i)
  case atStart => exact ⟨0, 0, [], Nat.zero_le _, rfl, Nat.zero_le _, Nat.zero_le _, HR.out.symm, o1, hBl, rfl, rfl⟩
  case round =>
    obtain ⟨i, f, acc, hi, hg, hfi, hal, hgo, hown, hbw, rfl, rfl⟩ := hrel
    have HG := Lib.hid hg
    clear hg
    by_cases hlt : i < s.size
    · rw [sp_step s c i f hlt] at hgo
      have hc := UInt8.toNat_lt s[i]
      have i1 : (0 : Int) ≤ (i : Int) := by omega
      have i2 : (i : Int) < (s.size : Int) := by omega
      have i3 : (f : Int) ≤ (i : Int) := by omega
      have i4 : (i : Int) ≤ (s.size : Int) := by omega
      have i5 : (0 : Int) ≤ (f : Int) := by omega
      by_cases he : s[i] = c
      · have te : (((s[i].toNat : Nat) : Int) == ((c.toNat : Nat) : Int)) = true := by rw [he]; simp
        rw [if_pos he] at hgo
        have HF := Lib.hid hgo
        have o2 := hown.below (bal (Below.refl _ _) (.cells #[.string (s.extract f i)] 9))
        have hB2 := bal hbw (.cells #[.string (s.extract f i)] 9)
        clear hgo he
        go_wp2_with (at_builtin; refine app_own rfl _ _ 44 rfl w.heap.size 9 i0 _ 1 16 Try.underlying44 hi0 hz hsz hby rfl (by decide) _ acc rfl o2 ⟨_, 0, none⟩ 1 (s.extract f i) rfl (cell_one_new _ _ _) (by simp [Value.oneCell']) (by unfold maxLen; omega) (by omega) hB2.size ?_; intro v2 w4 hown2 hg2)
        go_roundg (s.size - (i + 1))
        case measure => rw [HG.out]; omega
        case rel =>
          have hb7 := below_own (B := w.heap.size) o2 hg2 (Nat.le_refl _) hB2.size
          exact ⟨i + 1, i + 1, acc ++ [s.extract f i], by omega, rfl, by omega, by simp; omega, by rw [List.append_assoc]; exact HF.out, hown2, hB2.trans hb7, by go_num, by go_num⟩
      · have te : (((s[i].toNat : Nat) : Int) == ((c.toNat : Nat) : Int)) = false := by
          rw [beq_eq_false_iff_ne]
          intro hh
          exact he (UInt8.toNat_inj.1 (by omega))
        rw [if_neg he] at hgo
        have HF := Lib.hid hgo
        clear hgo he
        go_wp2_with fail
        go_roundg (s.size - (i + 1))
        case measure => rw [HG.out]; omega
        case rel => exact ⟨i + 1, f, acc, by omega, rfl, by omega, by omega, HF.out, hown, hbw, rfl, by go_num⟩
    · have hie : i = s.size := by omega
      subst hie
      rw [Nat.sub_self, spGo] at hgo
      have HF := Lib.hid hgo
      have i3 : (f : Int) ≤ (s.size : Int) := by omega
      have i5 : (0 : Int) ≤ (f : Int) := by omega
      have o2 := hown.below (bal (Below.refl _ _) (.cells #[.string (s.extract f s.size)] 9))
      have hB2 := bal hbw (.cells #[.string (s.extract f s.size)] 9)
      clear hgo
      go_wp2_with (at_builtin; refine app_own rfl _ _ 44 rfl w.heap.size 9 i0 _ 1 16 Try.underlying44 hi0 hz hsz hby rfl (by decide) _ acc rfl o2 ⟨_, 0, none⟩ 1 (s.extract f s.size) rfl (cell_one_new _ _ _) (by simp [Value.oneCell']) (by unfold maxLen; omega) (by omega) hB2.size ?_; intro v2 w4 hown2 hg2)
      go_ret
      have hb7 := below_own (B := w.heap.size) o2 hg2 (Nat.le_refl _) hB2.size
      exact ⟨_, rfl, by rw [← HF.out]; exact hown2, hB2.trans hb7⟩
end Go.Proofs.Yteepcnfpdmmnhaa
