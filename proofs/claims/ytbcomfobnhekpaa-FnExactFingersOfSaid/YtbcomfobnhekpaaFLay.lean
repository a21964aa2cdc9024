/-
  FLay: layouts of a board and the places of a text: spec.l05Index, l07Layout, l07Code; impl.isBoardLayout, placesOf, strokesOf.
-/
import Derived.Test.YtbcomfobnhekpaaFText
import Derived.Test.YtbcomfobnhekpaaFBoard
import Derived.Test.YtbcomfobnhekpaaApps
namespace Go.Proofs.Ytbcomfobnhekpaa
open Go.RowKit
set_option linter.unusedVariables false
attribute [local go_sem ↓] Go.wp_at_zero Go.wp_at_succ
def idxGo (c : UInt8) : List UInt8 → Nat → Int
  | [], _ => -1
  | x :: xs, k => if x = c then (k : Int) else idxGo c xs (k + 1)
/-- Where a byte first lies in a text; -1 without. -/
def idx (s : ByteArray) (c : UInt8) : Int := idxGo c s.data.toList 0
theorem byte_drop (s : ByteArray) (k : Nat) (h : k < s.size) : s.data.toList.drop k = s[k] :: s.data.toList.drop (k + 1) := by
  rw [List.drop_eq_getElem_cons (by simpa using h)]
  rfl
theorem byte_end (s : ByteArray) (k : Nat) (h : ¬ k < s.size) : s.data.toList.drop k = [] :=
  List.drop_of_length_le (by have : s.data.toList.length = s.size := by simp
                             omega)
theorem idxGo_cases (s : ByteArray) (c : UInt8) : ∀ (n k : Nat), s.size - k = n → (idxGo c (s.data.toList.drop k) k = -1 ∧ ∀ i (h : i < s.size), k ≤ i → s[i] ≠ c) ∨ ∃ j, ∃ h : j < s.size, idxGo c (s.data.toList.drop k) k = (j : Int) ∧ s[j] = c ∧ ∀ i (h : i < s.size), k ≤ i → i < j → s[i] ≠ c
  | 0, k, hn => .inl ⟨by rw [byte_end s k (by omega)]; rfl, fun i h hk => absurd h (by omega)⟩
  | n + 1, k, hn => by
    have hk : k < s.size := by omega
    rw [byte_drop s k hk]
    unfold idxGo
    by_cases e : s[k] = c
    · rw [if_pos e]
      exact .inr ⟨k, hk, rfl, e, fun i h h1 h2 => absurd h2 (by omega)⟩
    · rw [if_neg e]
      have ext : ∀ i (h : i < s.size), k ≤ i → k + 1 ≤ i ∨ s[i] ≠ c := fun i h hki => by
        rcases Nat.lt_or_ge k i with h1 | h1
        · exact .inl h1
        · have : i = k := by omega
          subst this
          exact .inr e
      rcases idxGo_cases s c n (k + 1) (by omega) with ⟨h1, h2⟩ | ⟨j, hj, h1, h2, h3⟩
      · exact .inl ⟨h1, fun i h hki => (ext i h hki).elim (h2 i h) id⟩
      · exact .inr ⟨j, hj, h1, h2, fun i h hki hij => (ext i h hki).elim (fun q => h3 i h q hij) id⟩
theorem idx_cases (s : ByteArray) (c : UInt8) : (idx s c = -1 ∧ ∀ i (h : i < s.size), s[i] ≠ c) ∨ ∃ j, ∃ h : j < s.size, idx s c = (j : Int) ∧ s[j] = c ∧ ∀ i (h : i < s.size), i < j → s[i] ≠ c := by
  rcases idxGo_cases s c _ 0 rfl with ⟨h1, h2⟩ | ⟨j, hj, h1, h2, h3⟩
  · exact .inl ⟨h1, fun i h => h2 i h (Nat.zero_le _)⟩
  · exact .inr ⟨j, hj, h1, h2, fun i h hij => h3 i h (Nat.zero_le _) hij⟩
theorem idx_bd (s : ByteArray) (c : UInt8) : -1 ≤ idx s c ∧ idx s c < s.size := by
  rcases idx_cases s c with ⟨h1, h2⟩ | ⟨j, hj, h1, h2, h3⟩ <;> omega
def Dist (s : ByteArray) : Prop := ∀ i j (hi : i < s.size) (hj : j < s.size), s[i] = s[j] → i = j
theorem dist_idx {s : ByteArray} (hd : Dist s) (k : Nat) (hk : k < s.size) (c : UInt8) (he : s[k] = c) : idx s c = k := by
  rcases idx_cases s c with ⟨h1, h2⟩ | ⟨j, hj, h1, h2, h3⟩
  · exact absurd he (h2 k hk)
  · rw [h1, hd j k hj hk (by rw [h2, he])]
theorem dist_iff (s : ByteArray) : Dist s ↔ ∀ k (h : k < s.size), idx s s[k] = k := by
  constructor
  · exact fun hd k hk => dist_idx hd k hk _ rfl
  · intro h i j hi hj he
    have h1 := h i hi
    have h2 := h j hj
    rw [he] at h1
    omega
/-- A layout with n places. -/
def LayB (s : ByteArray) (n : Nat) : Prop := s.size = n ∧ TextOk s 32 6 ∧ Dist s
def AllIn (lay text : ByteArray) : Prop := ∀ k (h : k < text.size), 0 ≤ idx lay text[k]
def StrokesB (xs : List TPlace) (lay text : ByteArray) : Prop := LayB lay xs.length ∧ text.size ≤ 400 ∧ AllIn lay text
open Classical in
noncomputable def codeL (xs : List TPlace) (lay text : ByteArray) : Int := if BoardOk xs then (if StrokesB xs lay text then 0 else 2) else 1
theorem codeL_bd (xs : List TPlace) (lay text : ByteArray) : 0 ≤ codeL xs lay text ∧ codeL xs lay text ≤ 2 := by
  unfold codeL
  split
  · split <;> omega
  · omega
theorem codeL_zero {xs : List TPlace} {lay text : ByteArray} (h1 : BoardOk xs) (h2 : StrokesB xs lay text) : codeL xs lay text = 0 := by unfold codeL; rw [if_pos h1, if_pos h2]
theorem codeL_ne {xs : List TPlace} {lay text : ByteArray} (h : ¬ (BoardOk xs ∧ StrokesB xs lay text)) : codeL xs lay text ≠ 0 := by
  unfold codeL
  split
  · split
    · exact absurd ⟨by assumption, by assumption⟩ h
    · omega
  · omega
/-- The places of a text. -/
def idxs (lay text : ByteArray) : List Int := text.data.toList.map (idx lay)
theorem idxs_len (lay text : ByteArray) : (idxs lay text).length = text.size := by unfold idxs; simp
theorem idxs_get (lay text : ByteArray) (k : Nat) (h : k < text.size) : (idxs lay text)[k]'(by rw [idxs_len]; exact h) = idx lay text[k] := by
  unfold idxs
  rw [List.getElem_map]
  rfl
theorem idxs_take (lay text : ByteArray) (k : Nat) (h : k < text.size) : (idxs lay text).take (k + 1) = (idxs lay text).take k ++ [idx lay text[k]] := by
  rw [List.take_succ_eq_append_getElem (by rw [idxs_len]; exact h), idxs_get lay text k h]
set_option maxHeartbeats 1600000 in
theorem l05Index_any (s : ByteArray) (hs : s.size ≤ 1048576) (c : UInt8) (w : World) :
    Calls Try.prog 106 #[.string s, .int .u8 (c.toNat : Int)] w fun e w' => e = .returned (.int .i64 (idx s c)) ∧ w = w' := by
  obtain ⟨M, hM⟩ : ∃ M, M = idx s c := ⟨_, rfl⟩
  rw [← hM]
  have HM := Lib.hid hM
  clear hM
  go_enter Try.func106, Try.ntmps106
  go_wp2
  go_loop [5] (fun i => ∃ k : Nat, k ≤ s.size ∧ idxGo c (s.data.toList.drop k) k = M ∧ i = .int .i64 k) (fun i => s.size - (intOf i).toNat)
  case atStart => exact ⟨0, Nat.zero_le _, HM.out.symm, rfl⟩
  case round =>
    obtain ⟨k, hk, hgo, rfl⟩ := hrel
    by_cases hlt : k < s.size
    · rw [byte_drop s k hlt] at hgo
      unfold idxGo at hgo
      have hc := UInt8.toNat_lt s[k]
      by_cases he : s[k] = c
      · have te : (((s[k].toNat : Nat) : Int) == ((c.toNat : Nat) : Int)) = true := by rw [he]; simp
        rw [if_pos he] at hgo
        have HF := Lib.hid hgo
        clear hgo he
        go_wp2
        go_ret
        exact ⟨ret_int HF.out, rfl⟩
      · have te : (((s[k].toNat : Nat) : Int) == ((c.toNat : Nat) : Int)) = false := by
          rw [beq_eq_false_iff_ne]
          intro hh
          exact he (UInt8.toNat_inj.1 (by omega))
        rw [if_neg he] at hgo
        have HF := Lib.hid hgo
        clear hgo he
        go_wp2
        go_round
        case rel => exact ⟨k + 1, by omega, HF.out, by go_num⟩
        case measure => simp [intOf]; omega
    · rw [byte_end s k hlt] at hgo
      have HF := Lib.hid hgo
      clear hgo
      go_wp2
      go_ret
      exact ⟨ret_int HF.out, rfl⟩
set_option maxHeartbeats 1600000 in
theorem l07Layout_any (s : ByteArray) (hs : s.size ≤ 1048576) (n : Nat) (hn : n ≤ 1048576) (w : World) :
    Calls Try.prog 143 #[.string s, .int .i64 n] w (RB (LayB s n) w) := by
  go_enter Try.func143, Try.ntmps143
  go_wp2
  go_loop [5] (fun i => ∃ k : Nat, k ≤ s.size ∧ (∀ j (h : j < s.size), j < k → idx s s[j] = j) ∧ i = .int .i64 k) (fun i => s.size - (intOf i).toNat)
  case atStart => exact ⟨0, Nat.zero_le _, fun j h hj => absurd hj (by omega), rfl⟩
  case round =>
    obtain ⟨k, hk, hall, rfl⟩ := hrel
    have HA := Lib.hid hall
    clear hall
    by_cases hlt : k < s.size
    · have hc := UInt8.toNat_lt s[k]
      by_cases he : idx s s[k] = k
      · have te : (idx s s[k] != (k : Int)) = false := by rw [he]; simp
        have HE := Lib.hid he
        clear he
        go_wp2_with (go_at_call 106; refine (l05Index_any s hs s[k] _).mono ?_; rintro e w1 ⟨rfl, rfl⟩)
        go_round
        case rel => exact ⟨k + 1, by omega, fun j hj hjk => (Nat.lt_succ_iff_lt_or_eq.1 hjk).elim (HA.out j hj) (fun hh => by subst hh; exact HE.out), by go_num⟩
        case measure => simp [intOf]; omega
      · have te : (idx s s[k] != (k : Int)) = true := by rw [bne_iff_ne]; exact he
        have HE := Lib.hid he
        clear he
        go_wp2_with (go_at_call 106; refine (l05Index_any s hs s[k] _).mono ?_; rintro e w1 ⟨rfl, rfl⟩)
        go_ret
        exact RB.mk (nott fun hh => HE.out (dist_idx hh.2.2 k hlt _ rfl))
    · have hd : Dist s := (dist_iff s).2 (fun j hj => HA.out j hj (by omega))
      have HD := Lib.hid hd
      clear hd
      rcases ff2 (s.size = n) (TextOk s 32 6) with h | ⟨h, h2⟩ | ⟨h, h2⟩
      · have t1 : ((s.size : Int) == (n : Int)) = false := by rw [beq_eq_false_iff_ne]; omega
        have H := Lib.hid h
        clear h
        go_wp2
        go_ret
        exact RB.mk (nott fun hh => H.out hh.1)
      · have t1 : ((s.size : Int) == (n : Int)) = true := by rw [h]; simp
        have H := Lib.hid h
        clear h
        go_wp2_with (go_at_call 89; refine (RB.no (l00Text_any s hs 6 (by omega) _) h2).mono ?_; rintro e w1 ⟨rfl, rfl⟩)
        go_ret
        exact RB.mk (nott fun hh => h2 hh.2.1)
      · have t1 : ((s.size : Int) == (n : Int)) = true := by rw [h]; simp
        have H := Lib.hid h
        clear h
        go_wp2_with (go_at_call 89; refine (RB.yes (l00Text_any s hs 6 (by omega) _) h2).mono ?_; rintro e w1 ⟨rfl, rfl⟩)
        go_ret
        exact RB.mk (yest ⟨H.out, h2, HD.out⟩)
set_option maxHeartbeats 1600000 in
theorem l07Code_any (A : Option Addr) (c : Nat) (xs : List TPlace) (hx : xs.length ≤ 1048576) (hk : ∀ x ∈ xs, KPlace x) (lay : ByteArray) (hl : lay.size ≤ 1048576) (text : ByteArray) (ht : text.size ≤ 1048576) (w : World) (rx : Row w A encPlace 3 xs) :
    Calls Try.prog 105 #[.slice A xs.length c, .string lay, .string text] w (RI1 (codeL xs lay text) w) := by
  by_cases hb : BoardOk xs
  case neg =>
    have HM := Lib.hid (show codeL xs lay text = 1 by unfold codeL; rw [if_neg hb])
    go_enter Try.func105, Try.ntmps105
    go_wp2_with (go_at_call 142; refine (RBb.no (l07Ok_any _ _ xs hx hk _ rx) hb).mono ?_; rintro e w1 ⟨rfl, hb1⟩)
    go_ret
    exact RI1.mk HM.out.symm hb1
  go_enter Try.func105, Try.ntmps105
  go_wp2_with (go_at_call 142; refine (RBb.yes (l07Ok_any _ _ xs hx hk _ rx) hb).mono ?_; rintro e w1 ⟨rfl, hb1⟩)
  go_loop [7] (fun i => ∃ k : Nat, k ≤ text.size ∧ (∀ j (h : j < text.size), j < k → 0 ≤ idx lay text[j]) ∧ i = .int .i64 k) (fun i => text.size - (intOf i).toNat)
  case atStart => exact ⟨0, Nat.zero_le _, fun j h hj => absurd hj (by omega), rfl⟩
  case round =>
    obtain ⟨k, hkk, hall, rfl⟩ := hrel
    have HA := Lib.hid hall
    clear hall
    by_cases hlt : k < text.size
    · have hc := UInt8.toNat_lt text[k]
      by_cases he : 0 ≤ idx lay text[k]
      · have te : decide (idx lay text[k] < 0) = false := by simp; omega
        have HE := Lib.hid he
        clear he
        go_wp2_with (go_at_call 106; refine (l05Index_any lay hl text[k] _).mono ?_; rintro e w2 ⟨rfl, rfl⟩)
        go_round
        case rel => exact ⟨k + 1, by omega, fun j hj hjk => (Nat.lt_succ_iff_lt_or_eq.1 hjk).elim (HA.out j hj) (fun hh => by subst hh; exact HE.out), by go_num⟩
        case measure => simp [intOf]; omega
      · have te : decide (idx lay text[k] < 0) = true := by simp; omega
        have HM := Lib.hid (show codeL xs lay text = 2 by unfold codeL; rw [if_pos hb, if_neg (fun q => he (q.2.2 k hlt))])
        clear he
        go_wp2_with (go_at_call 106; refine (l05Index_any lay hl text[k] _).mono ?_; rintro e w2 ⟨rfl, rfl⟩)
        go_ret
        exact RI1.mk HM.out.symm hb1
    · have hd : AllIn lay text := fun j hj => HA.out j hj (by omega)
      have HD := Lib.hid hd
      clear hd
      rcases ff2 (LayB lay xs.length) ((text.size : Int) ≤ 400) with h | ⟨h, h2⟩ | ⟨h, h2⟩
      · have HM := Lib.hid (show codeL xs lay text = 2 by unfold codeL; rw [if_pos hb, if_neg (fun q => h q.1)])
        go_wp2_with (go_at_call 143; refine (RB.no (l07Layout_any lay hl xs.length hx _) h).mono ?_; rintro e w2 ⟨rfl, rfl⟩)
        go_ret
        exact RI1.mk HM.out.symm hb1
      · have HM := Lib.hid (show codeL xs lay text = 2 by unfold codeL; rw [if_pos hb, if_neg (fun q => h2 (by have := q.2.1; omega))])
        go_wp2_with (go_at_call 143; refine (RB.yes (l07Layout_any lay hl xs.length hx _) h).mono ?_; rintro e w2 ⟨rfl, rfl⟩)
        go_ret
        exact RI1.mk HM.out.symm hb1
      · have HM := Lib.hid (show codeL xs lay text = 0 by unfold codeL; rw [if_pos hb, if_pos ⟨h, by omega, HD.out⟩])
        go_wp2_with (go_at_call 143; refine (RB.yes (l07Layout_any lay hl xs.length hx _) h).mono ?_; rintro e w2 ⟨rfl, rfl⟩)
        go_ret
        exact RI1.mk HM.out.symm hb1
theorem zerosB : Try.zeroCells205.toList = List.replicate 256 (.bool false) := by kernel_rfl
theorem zerosB_one : Try.zeroCells205.toList.all (·.oneCell') = true := by kernel_rfl
/-- Which bytes lie before k. -/
def seenB (s : ByteArray) (k j : Nat) : Bool := (s.data.toList.take k).any fun b => b.toNat == j
theorem seenB_at (s : ByteArray) (k : Nat) (h : k < s.size) : seenB s k s[k].toNat = true ↔ ∃ i, ∃ hi : i < s.size, i < k ∧ s[i] = s[k] := by
  unfold seenB
  rw [List.any_eq_true]
  constructor
  · rintro ⟨b, hb, hh⟩
    obtain ⟨j, hj, he⟩ := List.getElem_of_mem hb
    rw [List.length_take] at hj
    have hjs : j < s.size := by have : s.data.toList.length = s.size := by simp
                                omega
    refine ⟨j, hjs, by omega, ?_⟩
    rw [List.getElem_take] at he
    have e2 : s[j] = b := he
    rw [e2]
    exact UInt8.toNat_inj.1 (by simpa using hh)
  · rintro ⟨i, hi, hik, he⟩
    refine ⟨s[i], List.mem_of_getElem? (i := i) ?_, by simp [he]⟩
    rw [List.getElem?_take, if_pos hik, List.getElem?_eq_getElem (by simpa using hi)]
    rfl
theorem seenB_succ (s : ByteArray) (k j : Nat) (h : k < s.size) : seenB s (k + 1) j = (seenB s k j || (s[k].toNat == j)) := by
  unfold seenB
  rw [List.take_succ_eq_append_getElem (by simpa using h), List.any_append]
  simp
  rfl
set_option maxHeartbeats 3200000 in
theorem isBoardLayout_any (A : Option Addr) (c : Nat) (n : Nat) (hx : n ≤ 1048576) (lay : ByteArray) (hl : lay.size ≤ 1048576) (w : World) :
    Calls Try.prog 145 #[.slice A n c, .string lay] w (RBb (LayB lay n) w) := by
  have hst := store_zero (P := Try.prog) w Try.zeroCells205 205 zerosB_one
  have HR := Lib.hid (rowIs_of_list w Try.zeroCells205 205 256 (.bool false) zerosB)
  rcases ff2 (lay.size = n) (TextOk lay 32 6) with h | ⟨h, h2⟩ | ⟨h, h2⟩
  · have t1 : ((lay.size : Int) != (n : Int)) = true := by rw [bne_iff_ne]; omega
    have H := Lib.hid h
    clear h hst
    go_enter Try.func145, Try.ntmps145
    go_wp2
    go_ret
    exact RBb.mk (nott fun hh => H.out hh.1) (Below.refl _ _)
  · have t1 : ((lay.size : Int) != (n : Int)) = false := by rw [h]; simp
    have H := Lib.hid h
    clear h hst
    go_enter Try.func145, Try.ntmps145
    go_wp2_with (go_at_call 91; refine (RB.no (isText_any lay hl 32 6 (by omega) (by omega) _) h2).mono ?_; rintro e w1 ⟨rfl, rfl⟩)
    go_ret
    exact RBb.mk (nott fun hh => h2 hh.2.1) (Below.refl _ _)
  · have t1 : ((lay.size : Int) != (n : Int)) = false := by rw [h]; simp
    have H := Lib.hid h
    clear h
    go_enter Try.func145, Try.ntmps145
    go_wp2_with (go_at_call 91; refine (RB.yes (isText_any lay hl 32 6 (by omega) (by omega) _) h2).mono ?_; rintro e w1 ⟨rfl, rfl⟩)
    go_loopg [20] lay.size (fun g i wr => ∃ k : Nat, k ≤ lay.size ∧ g = lay.size - k ∧ (∀ i j (hi : i < lay.size) (hj : j < lay.size), i < k → j < k → lay[i] = lay[j] → i = j) ∧ Below w.heap.size w wr ∧ wr.rowIs w.heap.size 205 256 (fun j => .bool (seenB lay k j)) ∧ i = .int .i64 k)
    case atStart => exact ⟨0, Nat.zero_le _, rfl, fun i j _ _ hi => absurd hi (by omega), bal (Below.refl _ _) _, HR.out.congr (fun j _ => by simp [seenB]), rfl⟩
    case round =>
      obtain ⟨k, hk, hg, hd, hbw, hrow, rfl⟩ := hrel
      have HG := Lib.hid hg
      have HD := Lib.hid hd
      have HRow := Lib.hid hrow
      clear hg hd hst HR hrow
      by_cases hlt : k < lay.size
      · have hc := UInt8.toNat_lt lay[k]
        have cell := HRow.out.cell (i := lay[k].toNat) (by omega)
        have frz := HRow.out.frozen lay[k].toNat
        have hseen := seenB_at lay k hlt
        by_cases hm : ∃ i, ∃ hi : i < lay.size, i < k ∧ lay[i] = lay[k]
        · rw [hseen.2 hm] at cell
          have HM := Lib.hid hm
          clear hm hseen
          go_wp2
          go_ret
          refine RBb.mk (nott fun hh => ?_) hbw
          obtain ⟨i, hi, hik, he⟩ := HM.out
          have := hh.2.2 i k hi hlt he
          omega
        · have hsf : seenB lay k lay[k].toNat = false := Bool.eq_false_iff.2 (fun h => hm (hseen.1 h))
          rw [hsf] at cell
          have HM := Lib.hid hm
          clear hm hseen hsf
          go_wp2
          go_roundg (lay.size - (k + 1))
          case measure => rw [HG.out]; omega
          case rel =>
            refine ⟨k + 1, by omega, rfl, ?_, hbw.setCell (Nat.le_refl _) _, (HRow.out.set lay[k].toNat (.bool true)).congr (fun j _ => ?_), by go_num⟩
            · intro i j hi hj hik hjk he
              rcases Nat.lt_succ_iff_lt_or_eq.1 hik with h1 | h1 <;> rcases Nat.lt_succ_iff_lt_or_eq.1 hjk with h3 | h3
              · exact HD.out i j hi hj h1 h3 he
              · subst h3; exact absurd ⟨i, hi, h1, he⟩ HM.out
              · subst h1; exact absurd ⟨j, hj, h3, he.symm⟩ HM.out
              · omega
            · rw [seenB_succ lay k j hlt]
              by_cases hj : j = lay[k].toNat
              · subst hj; simp
              · have hj' : (lay[k].toNat == j) = false := by rw [beq_eq_false_iff_ne]; exact fun h => hj h.symm
                simp [hj, hj']
      · go_wp2
        go_ret
        exact RBb.mk (yest ⟨H.out, h2, fun i j hi hj he => HD.out i j hi hj (by omega) (by omega) he⟩) hbw
end Go.Proofs.Ytbcomfobnhekpaa
