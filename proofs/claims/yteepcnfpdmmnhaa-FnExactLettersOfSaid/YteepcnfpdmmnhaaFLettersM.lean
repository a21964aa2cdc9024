/-
  FLettersM: which letters can be typed, as sets of bytes.
-/
import Derived.Test.YteepcnfpdmmnhaaFAsc
import Derived.Test.YteepcnfpdmmnhaaFPressesM
namespace Go.Proofs.Yteepcnfpdmmnhaa
open Go.RowKit
set_option linter.unusedVariables false
attribute [local go_sem ↓] Go.wp_at_zero Go.wp_at_succ
set_option linter.unusedSimpArgs false
def b0 (s : ByteArray) : Nat := (s.data.toList.getD 0 0).toNat
theorem b0_at {s : ByteArray} (h : 0 < s.size) : b0 s = s[0].toNat := by
  unfold b0
  rw [List.getD_eq_getElem?_getD, List.getElem?_eq_getElem (by simpa using h)]; rfl
theorem b0_lt (s : ByteArray) : b0 s < 256 := UInt8.toNat_lt _
theorem b0_byte {s : ByteArray} (h : s.size = 1) : ∃ c : UInt8, b0 s = c.toNat ∧ ∀ h : 0 < s.size, s[0] = c := ⟨s[0]'(by omega), b0_at (by omega), fun _ => rfl⟩
theorem b0_ext (s : ByteArray) (k : Nat) (h : k < s.size) : b0 (s.extract k (k + 1)) = s[k].toNat := by
  have h1 : 0 < (s.extract k (k + 1)).size := by rw [extract_one s k h]; omega
  rw [b0_at h1, extract_at s k h h1]
theorem put_asc (f : Nat → Bool) (c : UInt8) : (⟨(insB (ascS f).data.toList c).toArray⟩ : ByteArray) = ascS (fun j => f j || c.toNat == j) := by
  unfold ascS
  rw [← ascB_ins]
theorem ascS_congr {f g : Nat → Bool} (h : ∀ j, j < 256 → f j = g j) : ascS f = ascS g := by unfold ascS; rw [ascB_congr h]
theorem ascS_none : ascS (fun _ => false) = ⟨#[]⟩ := by unfold ascS; rw [ascB_none]
def keyF (k : TKey) (j : Nat) : Bool := !k.2.2 && (b0 k.1 == j || b0 k.2.1 == j)
def kF (ks : List TKey) (j : Nat) : Bool := ks.any (fun k => keyF k j)
def aF (az : List TAccent) (j : Nat) : Bool := az.any (fun a => b0 a.2.2 == j)
theorem kF_succ (ks : List TKey) (k : Nat) (h : k < ks.length) (j : Nat) : kF (ks.take (k + 1)) j = (kF (ks.take k) j || keyF ks[k] j) := by
  unfold kF
  rw [List.take_succ_eq_append_getElem h, List.any_append]; simp
theorem aF_succ (az : List TAccent) (k : Nat) (h : k < az.length) (j : Nat) : aF (az.take (k + 1)) j = (aF (az.take k) j || b0 az[k].2.2 == j) := by
  unfold aF
  rw [List.take_succ_eq_append_getElem h, List.any_append]; simp
noncomputable def M_LettersOf (ks : List TKey) (az : List TAccent) : ByteArray × Int := if KeysOk ks az then (ascS (fun j => kF ks j || aF az j), 0) else (⟨#[]⟩, 1)
noncomputable def misF (ks : List TKey) (az : List TAccent) (text : ByteArray) (k : Nat) (j : Nat) : Bool := (List.range k).any fun i => b0 (text.extract i (i + 1)) == j && (presV ks az (text.extract i (i + 1))).length == 0
theorem misF_succ (ks : List TKey) (az : List TAccent) (text : ByteArray) (k j : Nat) : misF ks az text (k + 1) j = (misF ks az text k j || (b0 (text.extract k (k + 1)) == j && (presV ks az (text.extract k (k + 1))).length == 0)) := by
  unfold misF
  rw [List.range_succ, List.any_append]; simp
noncomputable def M_MissingLetters (ks : List TKey) (az : List TAccent) (text : ByteArray) : ByteArray × Int :=
  if KeysOk ks az then (if TextOk text 33 100 then (ascS (misF ks az text text.size), 0) else (⟨#[]⟩, 2)) else (⟨#[]⟩, 1)
theorem l02Put_asc (f : Nat → Bool) (ch : ByteArray) (hc : ch.size = 1) (w : World) :
    Calls Try.prog 116 #[.string (ascS f), .string ch] w (RS1 (ascS (fun j => f j || b0 ch == j)) w) := by
  have h := l02PutLetter_any (ascS f) ch (by have := ascS_size f; omega) hc w
  rw [put_asc, ← b0_at (by omega)] at h
  exact h
end Go.Proofs.Yteepcnfpdmmnhaa
