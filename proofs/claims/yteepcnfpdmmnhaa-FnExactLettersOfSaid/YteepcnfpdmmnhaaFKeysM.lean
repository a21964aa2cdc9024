/-
  FKeysM: keys and accents as plain data; a map of bools by texts. No program in sight.
-/
import Derived.Test.YteepcnfpdmmnhaaMaps
import Derived.Test.YteepcnfpdmmnhaaFText
import Derived.StringKeys
namespace Go.Proofs.Yteepcnfpdmmnhaa
open Go.RowKit
set_option linter.unusedVariables false
def InK (k : TKey) (c : ByteArray) : Prop := k.1 = c ∨ k.2.1 = c
def HasL (ks : List TKey) (c : ByteArray) : Prop := ∃ k ∈ ks, InK k c
def DeadL (ks : List TKey) (c : ByteArray) : Prop := ∃ k ∈ ks, InK k c ∧ k.2.2 = true
def findGo (c : ByteArray) : List TKey → Nat → Int × Bool
  | [], _ => (-1, false)
  | k :: ks, i => if k.1 = c then ((i : Int), false) else if k.2.1 = c then ((i : Int), true) else findGo c ks (i + 1)
def findL (ks : List TKey) (c : ByteArray) : Int × Bool := findGo c ks 0
theorem findGo_cases (c : ByteArray) : ∀ (ks : List TKey) (n : Nat), (findGo c ks n = (-1, false) ∧ ¬ HasL ks c) ∨ ∃ i, ∃ h : i < ks.length, ∃ s : Bool, findGo c ks n = (((n + i : Nat) : Int), s) ∧ InK ks[i] c ∧ (s = true ↔ ks[i].1 ≠ c) ∧ ∀ j (hj : j < ks.length), j < i → ¬ InK ks[j] c
  | [], n => .inl ⟨rfl, fun ⟨k, hk, _⟩ => by simp at hk⟩
  | k :: ks, n => by
    unfold findGo
    by_cases h1 : k.1 = c
    · rw [if_pos h1]
      exact .inr ⟨0, by simp, false, rfl, .inl h1, ⟨fun h => (by cases h), fun h => absurd h1 h⟩, fun j hj h => absurd h (by omega)⟩
    · rw [if_neg h1]
      by_cases h2 : k.2.1 = c
      · rw [if_pos h2]
        exact .inr ⟨0, by simp, true, rfl, .inr h2, ⟨fun _ => h1, fun _ => rfl⟩, fun j hj h => absurd h (by omega)⟩
      · rw [if_neg h2]
        have hn : ¬ InK k c := fun h => h.elim h1 h2
        rcases findGo_cases c ks (n + 1) with ⟨q1, q2⟩ | ⟨i, hi, s, q1, q2, q3, q4⟩
        · refine .inl ⟨q1, fun ⟨k', hk', hh⟩ => ?_⟩
          rcases List.mem_cons.1 hk' with rfl | hm
          · exact hn hh
          · exact q2 ⟨k', hm, hh⟩
        · refine .inr ⟨i + 1, by simpa using hi, s, by rw [q1, show n + 1 + i = n + (i + 1) by omega], q2, q3, fun j hj hji => ?_⟩
          rcases j with _ | j
          · exact hn
          · exact q4 j (by simpa using hj) (by omega)
theorem findL_cases (ks : List TKey) (c : ByteArray) : (findL ks c = (-1, false) ∧ ¬ HasL ks c) ∨ ∃ i, ∃ h : i < ks.length, ∃ s : Bool, findL ks c = ((i : Int), s) ∧ InK ks[i] c ∧ (s = true ↔ ks[i].1 ≠ c) ∧ ∀ j (hj : j < ks.length), j < i → ¬ InK ks[j] c := by
  rcases findGo_cases c ks 0 with h | ⟨i, hi, s, q1, q⟩
  · exact .inl h
  · exact .inr ⟨i, hi, s, by rw [Nat.zero_add] at q1; exact q1, q⟩
theorem find_neg (ks : List TKey) (c : ByteArray) : (findL ks c).1 < 0 ↔ ¬ HasL ks c := by
  rcases findL_cases ks c with ⟨h1, h2⟩ | ⟨i, hi, s, q1, q2, _⟩
  · rw [h1]; exact ⟨fun _ => h2, fun _ => by show (-1 : Int) < 0; omega⟩
  · rw [q1]
    exact ⟨fun h => absurd h (by show ¬ ((i : Int) < 0); omega), fun h => absurd ⟨_, List.getElem_mem hi, q2⟩ h⟩
def KeyP (ks : List TKey) (i : Nat) : Prop := ∃ h : i < ks.length, (LetterOk ks[i].1 ∧ LetterOk ks[i].2.1) ∧ ks[i].1 ≠ ks[i].2.1 ∧ ¬ HasL (ks.take i) ks[i].1 ∧ ¬ HasL (ks.take i) ks[i].2.1
def KeysUp (ks : List TKey) : Prop := ∀ i, i < ks.length → KeyP ks i
theorem hasL_take {ks : List TKey} {i j : Nat} (hj : j < ks.length) (hji : j < i) {c : ByteArray} (h : InK ks[j] c) : HasL (ks.take i) c := by
  refine ⟨ks[j], List.mem_of_getElem? (i := j) ?_, h⟩
  rw [List.getElem?_take, if_pos hji, List.getElem?_eq_getElem hj]
theorem hasL_take_inv {ks : List TKey} {i : Nat} {c : ByteArray} (h : HasL (ks.take i) c) : ∃ j, ∃ hj : j < ks.length, j < i ∧ InK ks[j] c := by
  obtain ⟨k, hk, hc⟩ := h
  obtain ⟨j, hj, he⟩ := List.getElem_of_mem hk
  rw [List.length_take] at hj
  rw [List.getElem_take] at he
  exact ⟨j, by omega, by omega, by rw [he]; exact hc⟩
theorem keys_uniq {ks : List TKey} (h : KeysUp ks) {i j : Nat} (hi : i < ks.length) (hj : j < ks.length) {c : ByteArray} (h1 : InK ks[i] c) (h2 : InK ks[j] c) : i = j := by
  rcases Nat.lt_trichotomy i j with hl | hl | hl
  · obtain ⟨_, _, _, q1, q2⟩ := h j hj
    rcases h2 with h2 | h2
    · exact absurd (hasL_take hi hl h1) (by rw [← h2]; exact q1)
    · exact absurd (hasL_take hi hl h1) (by rw [← h2]; exact q2)
  · exact hl
  · obtain ⟨_, _, _, q1, q2⟩ := h i hi
    rcases h1 with h1 | h1
    · exact absurd (hasL_take hj hl h2) (by rw [← h1]; exact q1)
    · exact absurd (hasL_take hj hl h2) (by rw [← h1]; exact q2)
theorem dead_of {ks : List TKey} (h : KeysUp ks) {i : Nat} (hi : i < ks.length) {c : ByteArray} (h1 : InK ks[i] c) : ks[i].2.2 = true ↔ DeadL ks c := by
  constructor
  · exact fun hd => ⟨_, List.getElem_mem hi, h1, hd⟩
  · rintro ⟨k, hk, hc, hd⟩
    obtain ⟨j, hj, rfl⟩ := List.getElem_of_mem hk
    have := keys_uniq h hi hj h1 hc
    subst this
    exact hd
/-- An accent that keys can make. -/
def AccK (ks : List TKey) (a : TAccent) : Prop := (HasL ks a.1 ∧ DeadL ks a.1) ∧ (HasL ks a.2.1 ∧ ¬ DeadL ks a.2.1) ∧ ¬ HasL ks a.2.2 ∧ LetterOk a.2.2
def AccN (az : List TAccent) (i : Nat) (a : TAccent) : Prop := ∀ j (h : j < az.length), j < i → az[j].2.2 ≠ a.2.2 ∧ ¬ (az[j].1 = a.1 ∧ az[j].2.1 = a.2.1)
def AccsUp (ks : List TKey) (az : List TAccent) : Prop := ∀ i (h : i < az.length), AccK ks az[i] ∧ AccN az i az[i]
def KeysOk (ks : List TKey) (az : List TAccent) : Prop := (ks.length ≤ 40 ∧ az.length ≤ 20) ∧ KeysUp ks ∧ AccsUp ks az
noncomputable instance decHasL (ks : List TKey) (c : ByteArray) : Decidable (HasL ks c) := Classical.propDecidable _
noncomputable instance decDeadL (ks : List TKey) (c : ByteArray) : Decidable (DeadL ks c) := Classical.propDecidable _
noncomputable instance decKeysOk (ks : List TKey) (az : List TAccent) : Decidable (KeysOk ks az) := Classical.propDecidable _
theorem letter_of_has {ks : List TKey} (h : KeysUp ks) {c : ByteArray} (hc : HasL ks c) : LetterOk c := by
  obtain ⟨k, hk, hh⟩ := hc
  obtain ⟨i, hi, rfl⟩ := List.getElem_of_mem hk
  obtain ⟨_, ⟨q1, q2⟩, _⟩ := h i hi
  rcases hh with rfl | rfl
  · exact q1
  · exact q2
theorem hasL_split {ks : List TKey} {k : Nat} (hk : k < ks.length) (c : ByteArray) : HasL (ks.take (k + 1)) c ↔ (HasL (ks.take k) c ∨ c = ks[k].1 ∨ c = ks[k].2.1) := by
  rw [List.take_succ_eq_append_getElem hk]
  constructor
  · rintro ⟨x, hx, hc⟩
    rcases List.mem_append.1 hx with hm | hm
    · exact .inl ⟨x, hm, hc⟩
    · simp only [List.mem_singleton] at hm
      subst hm
      rcases hc with h | h
      · exact .inr (.inl h.symm)
      · exact .inr (.inr h.symm)
  · rintro (⟨x, hm, hc⟩ | h | h)
    · exact ⟨x, List.mem_append.2 (.inl hm), hc⟩
    · exact ⟨ks[k], List.mem_append.2 (.inr (by simp)), .inl h.symm⟩
    · exact ⟨ks[k], List.mem_append.2 (.inr (by simp)), .inr h.symm⟩
theorem deadL_split {ks : List TKey} {k : Nat} (hk : k < ks.length) (c : ByteArray) : DeadL (ks.take (k + 1)) c ↔ (DeadL (ks.take k) c ∨ ((c = ks[k].1 ∨ c = ks[k].2.1) ∧ ks[k].2.2 = true)) := by
  rw [List.take_succ_eq_append_getElem hk]
  constructor
  · rintro ⟨x, hx, hc, hd⟩
    rcases List.mem_append.1 hx with hm | hm
    · exact .inl ⟨x, hm, hc, hd⟩
    · simp only [List.mem_singleton] at hm
      subst hm
      refine .inr ⟨?_, hd⟩
      rcases hc with h | h
      · exact .inl h.symm
      · exact .inr h.symm
  · rintro (⟨x, hm, hc⟩ | ⟨h, hd⟩)
    · exact ⟨x, List.mem_append.2 (.inl hm), hc⟩
    · refine ⟨ks[k], List.mem_append.2 (.inr (by simp)), ?_, hd⟩
      rcases h with h | h
      · exact .inl h.symm
      · exact .inr h.symm
theorem dead_has {ks : List TKey} {c : ByteArray} (h : DeadL ks c) : HasL ks c := let ⟨k, hk, hc, _⟩ := h; ⟨k, hk, hc⟩
/-! ### a map of bools by texts -/
def SMap (w : World) (P : Program) (K E : TypeId) (b n : Nat) (g : ByteArray → Bool) : Prop := ∃ f : Lit → Bool, BMap w P K E b n f ∧ ∀ c : ByteArray, f (.string c.data.toList) = g c
section
variable {P : Program} {w w' : World} {K E : TypeId} {b n : Nat} {g : ByteArray → Bool}
theorem SMap.made (w : World) (P : Program) (K E : TypeId) : SMap (w.alloc (.map #[] 0)) P K E w.heap.size 0 (fun _ => false) := ⟨_, BMap.made w P K E, fun _ => rfl⟩
theorem SMap.lt (h : SMap w P K E b n g) : b < w.heap.size := let ⟨_, h1, _⟩ := h; h1.lt
theorem SMap.kept {row : Option Nat} (h : SMap w P K E b n g) (hg : w.grownBy w' row) (hne : some b ≠ row) : SMap w' P K E b n g := let ⟨f, h1, h2⟩ := h; ⟨f, h1.kept hg hne, h2⟩
theorem SMap.below (h : SMap w P K E b n g) (hb : Below w.heap.size w w') : SMap w' P K E b n g := let ⟨f, h1, h2⟩ := h; ⟨f, h1.below hb, h2⟩
theorem SMap.congr (h : SMap w P K E b n g) {g' : ByteArray → Bool} (hg : ∀ c, g c = g' c) : SMap w P K E b n g' := let ⟨f, h1, h2⟩ := h; ⟨f, h1, fun c => (h2 c).trans (hg c)⟩
theorem SMap.look {t : TypeId} (h : SMap w P K E b n g) (hK : P.underlying K = some .string) (ht : P.underlying t = some (.map K E)) (he : P.underlying E = some .bool) (hz : (zeroValue E).run P w = .ok (.bool false) w)
    (c : ByteArray) (hc : c.size ≤ maxLen) {v : Bool} (hv : g c = v) : (Instr.lookup t (.map (some b)) (.string c) false).run P w = .ok (.bool v) w := by
  obtain ⟨f, h1, h2⟩ := h
  rw [h1.look (Go.Maps.string_keyed hK) ht he hz (kl := .string c.data.toList) trivial (WideMaps.keyOf_string_mk hK hc), h2 c, hv]
end
theorem wpList_update_smap {P : Program} (w : World) {ops : Array Oper} {rest : List Oper} {o : Oper} {a : Act} {Q : Exit → Act → World → Prop}
    (hg : o.guard = none) (m x v : Operand) (t : TypeId) (hop : o.op = Op.mapUpdate t m x v)
    (k e : TypeId) (hK : P.underlying k = some .string) (ht : P.underlying t = some (.map k e)) (he : P.underlying e = some .bool) (b n : Nat) (g : ByteArray → Bool) (hn : n < maxLen)
    (hm : a.eval m = .map (some b)) (hown : SMap w P k e b n g) (c : ByteArray) (hc : c.size ≤ maxLen) (y : Bool) (hx : a.eval x = .string c) (hv : a.eval v = .bool y)
    (h : ∀ w', SMap w' P k e b (n + 1) (fun d => if d = c then y else g d) → w.grownBy w' (some b) → wpList P ops Q rest (a.put o.dst undef) w') : wpList P ops Q (o :: rest) a w := by
  obtain ⟨f, h1, h2⟩ := hown
  refine wpList_update_bmap w hg m x v t hop k e (Go.Maps.string_keyed hK) ht he b n f hn hm h1 (.string c) y (.string c.data.toList) trivial hx hv (WideMaps.keyOf_string_mk hK hc) ?_
  intro w' hb hgr
  refine h w' ⟨_, hb, fun d => ?_⟩ hgr
  show (if Lit.sameKey (.string d.data.toList) (.string c.data.toList) = true then y else f (.string d.data.toList)) = _
  by_cases hd : d = c
  · subst hd
    rw [if_pos (by simp [Lit.sameKey])]
    show y = if d = d then y else _
    rw [if_pos rfl]
  · have hn : ¬ Lit.sameKey (.string d.data.toList) (.string c.data.toList) = true := by
      intro hh
      simp only [Lit.sameKey, beq_iff_eq] at hh
      exact hd (tl_eq.1 (by rw [tl_data, tl_data]; exact hh))
    rw [if_neg hn, h2 d]
    show g d = if d = c then y else g d
    rw [if_neg hd]
theorem own_capK {α : Type} {w : World} {e : α → List Value} {s : Nat} {xs : List α} {A : Option Addr} {base n c : Nat} {E : TypeId} (h : Own w base E e s (.slice A n c) xs) : n ≤ c := by
  rcases h.2.2 with ⟨hv, _⟩ | ⟨g, cap, cs, hv, _, _, hn, _⟩
  · injection hv with h1 h2 h3; omega
  · injection hv with h1 h2 h3; omega
theorem Row.takeK {α : Type} {w : World} {A : Option Addr} {e : α → List Value} {s : Nat} {xs : List α} (h : Row w A e s xs) (k : Nat) : Row w A e s (xs.take k) := by
  intro hne
  obtain ⟨b, off, hA, hlt, hc⟩ := h (by intro h0; subst h0; simp at hne)
  refine ⟨b, off, hA, hlt, fun j x hx => hc j x ?_⟩
  rw [List.getElem?_take] at hx
  split at hx
  · exact hx
  · cases hx
theorem seq_true {x y : ByteArray} (h : x = y) : (x.toList == y.toList) = true := by rw [h]; simp
theorem seq_false {x y : ByteArray} (h : ¬ x = y) : (x.toList == y.toList) = false := by rw [beq_eq_false_iff_ne]; exact fun hh => h (tl_eq.1 hh)
end Go.Proofs.Yteepcnfpdmmnhaa
