/-
  FLay: layouts of a board and the places of a text: spec.l05Index, l07Layout, l07Code; impl.isBoardLayout, placesOf, strokesOf.
-/
import Derived.Test.YtampmnicnomknaaFText
import Derived.Test.YtampmnicnomknaaFBoard
import Derived.Test.YtampmnicnomknaaApps
namespace Go.Proofs.Ytampmnicnomknaa
open Go.RowKit
set_option linter.unusedVariables false
attribute [local go_sem ↓] Go.wp_at_zero Go.wp_at_succ
def idxGo (c : UInt8) : List UInt8 → Nat → Int
  | [], _ => -1
  | x :: xs, k => if x = c then (k : Int) else idxGo c xs (k + 1)
/-- Where a byte first lies in a text; -1 without. -/
def idx (s : ByteArray) (c : UInt8) : Int := idxGo c s.data.toList 0
theorem byte_drop (s : ByteArray) (k : Nat) (h : k < s.size) : s.data.toList.drop k = s[k] :: s.data.toList.drop (k + 1) := by
  rw [List.drop_eq_getElem_cons (by simpa using h)]
  rfl
theorem byte_end (s : ByteArray) (k : Nat) (h : ¬ k < s.size) : s.data.toList.drop k = [] :=
  List.drop_of_length_le (by have : s.data.toList.length = s.size := by simp
                             omega)
theorem idxGo_cases (s : ByteArray) (c : UInt8) : ∀ (n k : Nat), s.size - k = n → (idxGo c (s.data.toList.drop k) k = -1 ∧ ∀ i (h : i < s.size), k ≤ i → s[i] ≠ c) ∨ ∃ j, ∃ h : j < s.size, idxGo c (s.data.toList.drop k) k = (j : Int) ∧ s[j] = c ∧ ∀ i (h : i < s.size), k ≤ i → i < j → s[i] ≠ c
  | 0, k, hn => .inl ⟨by rw [byte_end s k (by omega)]; rfl, fun i h hk => absurd h (by omega)⟩
  | n + 1, k, hn => by
    have hk : k < s.size := by omega
    rw [byte_drop s k hk]
    unfold idxGo
    by_cases e : s[k] = c
    · rw [if_pos e]
      exact .inr ⟨k, hk, rfl, e, fun i h h1 h2 => absurd h2 (by omega)⟩
    · rw [if_neg e]
      have ext : ∀ i (h : i < s.size), k ≤ i → k + 1 ≤ i ∨ s[i] ≠ c := fun i h hki => by
        rcases Nat.lt_or_ge k i with h1 | h1
        · exact .inl h1
        · have : i = k := by omega
          subst this
          exact .inr e
      rcases idxGo_cases s c n (k + 1) (by omega) with ⟨h1, h2⟩ | ⟨j, hj, h1, h2, h3⟩
      · exact .inl ⟨h1, fun i h hki => (ext i h hki).elim (h2 i h) id⟩
      · exact .inr ⟨j, hj, h1, h2, fun i h hki hij => (ext i h hki).elim (fun q => h3 i h q hij) id⟩
theorem idx_cases (s : ByteArray) (c : UInt8) : (idx s c = -1 ∧ ∀ i (h : i < s.size), s[i] ≠ c) ∨ ∃ j, ∃ h : j < s.size, idx s c = (j : Int) ∧ s[j] = c ∧ ∀ i (h : i < s.size), i < j → s[i] ≠ c := by
  rcases idxGo_cases s c _ 0 rfl with ⟨h1, h2⟩ | ⟨j, hj, h1, h2, h3⟩
  · exact .inl ⟨h1, fun i h => h2 i h (Nat.zero_le _)⟩
  · exact .inr ⟨j, hj, h1, h2, fun i h hij => h3 i h (Nat.zero_le _) hij⟩
theorem idx_bd (s : ByteArray) (c : UInt8) : -1 ≤ idx s c ∧ idx s c < s.size := by
  rcases idx_cases s c with ⟨h1, h2⟩ | ⟨j, hj, h1, h2, h3⟩ <;> omega
def Dist (s : ByteArray) : Prop := ∀ i j (hi : i < s.size) (hj : j < s.size), s[i] = s[j] → i = j
theorem dist_idx {s : ByteArray} (hd : Dist s) (k : Nat) (hk : k < s.size) (c : UInt8) (he : s[k] = c) : idx s c = k := by
  rcases idx_cases s c with ⟨h1, h2⟩ | ⟨j, hj, h1, h2, h3⟩
  · exact absurd he (h2 k hk)
  · rw [h1, hd j k hj hk (by rw [h2, he])]
theorem dist_iff (s : ByteArray) : Dist s ↔ ∀ k (h : k < s.size), idx s s[k] = k := by
  constructor
  · exact fun hd k hk => dist_idx hd k hk _ rfl
  · intro h i j hi hj he
    have h1 := h i hi
    have h2 := h j hj
    rw [he] at h1
    omega
/-- A layout with n places. -/
def LayB (s : ByteArray) (n : Nat) : Prop := s.size = n ∧ TextOk s 32 6 ∧ Dist s
def AllIn (lay text : ByteArray) : Prop := ∀ k (h : k < text.size), 0 ≤ idx lay text[k]
def StrokesB (xs : List TPlace) (lay text : ByteArray) : Prop := LayB lay xs.length ∧ text.size ≤ 400 ∧ AllIn lay text
open Classical in
noncomputable def codeL (xs : List TPlace) (lay text : ByteArray) : Int := if BoardOk xs then (if StrokesB xs lay text then 0 else 2) else 1
theorem codeL_bd (xs : List TPlace) (lay text : ByteArray) : 0 ≤ codeL xs lay text ∧ codeL xs lay text ≤ 2 := by
  unfold codeL
  split
  · split <;> omega
  · omega
theorem codeL_zero {xs : List TPlace} {lay text : ByteArray} (h1 : BoardOk xs) (h2 : StrokesB xs lay text) : codeL xs lay text = 0 := by unfold codeL; rw [if_pos h1, if_pos h2]
theorem codeL_ne {xs : List TPlace} {lay text : ByteArray} (h : ¬ (BoardOk xs ∧ StrokesB xs lay text)) : codeL xs lay text ≠ 0 := by
  unfold codeL
  split
  · split
    · exact absurd ⟨by assumption, by assumption⟩ h
    · omega
  · omega
/-- The places of a text. -/
def idxs (lay text : ByteArray) : List Int := text.data.toList.map (idx lay)
theorem idxs_len (lay text : ByteArray) : (idxs lay text).length = text.size := by unfold idxs; simp
theorem idxs_get (lay text : ByteArray) (k : Nat) (h : k < text.size) : (idxs lay text)[k]'(by rw [idxs_len]; exact h) = idx lay text[k] := by
  unfold idxs
  rw [List.getElem_map]
  rfl
theorem idxs_take (lay text : ByteArray) (k : Nat) (h : k < text.size) : (idxs lay text).take (k + 1) = (idxs lay text).take k ++ [idx lay text[k]] := by
  rw [List.take_succ_eq_append_getElem (by rw [idxs_len]; exact h), idxs_get lay text k h]
set_option maxHeartbeats 1600000 in
theorem l05Index_any (s : ByteArray) (hs : s.size ≤ 1048576) (c : UInt8) (w : World) :
    Calls Try.prog 10 #[.string s, .int .u8 (c.toNat : Int)] w fun e w' => e = .returned (.int .i64 (idx s c)) ∧ w = w' := by
  obtain ⟨M, hM⟩ : ∃ M, M = idx s c := ⟨_, rfl⟩
  rw [← hM]
  have HM := Lib.hid hM
  clear hM
  go_enter Try.func10, Try.ntmps10
  go_wp2
  go_loop [5] (fun i => ∃ k : Nat, k ≤ s.size ∧ idxGo c (s.data.toList.drop k) k = M ∧ i = .int .i64 k) (fun i => s.size - (intOf i).toNat)
  case atStart => exact ⟨0, Nat.zero_le _, HM.out.symm, rfl⟩
  case round =>
    obtain ⟨k, hk, hgo, rfl⟩ := hrel
    by_cases hlt : k < s.size
    · rw [byte_drop s k hlt] at hgo
      unfold idxGo at hgo
      have hc := UInt8.toNat_lt s[k]
      by_cases he : s[k] = c
      · have te : (((s[k].toNat : Nat) : Int) == ((c.toNat : Nat) : Int)) = true := by rw [he]; simp
        rw [if_pos he] at hgo
        have HF := Lib.hid hgo
        clear hgo he
        go_wp2
        go_ret
        exact ⟨ret_int HF.out, rfl⟩
      · have te : (((s[k].toNat : Nat) : Int) == ((c.toNat : Nat) : Int)) = false := by
          rw [beq_eq_false_iff_ne]
          intro hh
          exact he (UInt8.toNat_inj.1 (by omega))
        rw [if_neg he] at hgo
        have HF := Lib.hid hgo
        clear hgo he
        go_wp2
        go_round
        case rel => exact ⟨k + 1, by omega, HF.out, by go_num⟩
        case measure => simp [intOf]; omega
    · rw [byte_end s k hlt] at hgo
      have HF := Lib.hid hgo
      clear hgo
      go_wp2
      go_ret
      exact ⟨ret_int HF.out, rfl⟩
end Go.Proofs.Ytampmnicnomknaa
