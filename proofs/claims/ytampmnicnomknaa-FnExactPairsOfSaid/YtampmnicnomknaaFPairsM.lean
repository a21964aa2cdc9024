/-
  FPairsM: what the map of impl.PairsOf holds: which place each letter has. 
-/
import Derived.Test.YtampmnicnomknaaMapsI
import Derived.Test.YtampmnicnomknaaFPairsS
namespace Go.Proofs.Ytampmnicnomknaa
open Go.RowKit
set_option linter.unusedVariables false
def keyL (c : UInt8) : Lit := .int .u8 (c.toNat : Int)
theorem keyL_inj {a b : UInt8} (h : keyL a = keyL b) : a = b := by
  unfold keyL at h
  injection h with h1 h2
  exact UInt8.toNat_inj.1 (by omega)
/-- What the map holds when the first k letters are laid. -/
def seenM (s : ByteArray) : Nat → Lit → Option Int
  | 0 => fun _ => none
  | k + 1 => fun q => if q.sameKey (keyL (byteAt s k)) = true then some (k : Int) else seenM s k q
theorem seenM_cases (s : ByteArray) (c : UInt8) : ∀ k, (seenM s k (keyL c) = none ∧ ∀ j, j < k → byteAt s j ≠ c) ∨ ∃ j, j < k ∧ byteAt s j = c ∧ seenM s k (keyL c) = some (j : Int)
  | 0 => .inl ⟨rfl, fun j hj => by omega⟩
  | k + 1 => by
    by_cases h : byteAt s k = c
    · refine .inr ⟨k, by omega, h, ?_⟩
      show (if (keyL c).sameKey (keyL (byteAt s k)) = true then some (k : Int) else seenM s k (keyL c)) = _
      rw [h, if_pos (WideAt.sameKey_self (show WideAt.IsKeyLit (keyL c) from trivial))]
    · have hne : ¬ (keyL c).sameKey (keyL (byteAt s k)) = true := fun hh => h (keyL_inj (WideAt.sameKey_eq hh)).symm
      have e : seenM s (k + 1) (keyL c) = seenM s k (keyL c) := by
        show (if (keyL c).sameKey (keyL (byteAt s k)) = true then some (k : Int) else seenM s k (keyL c)) = _
        rw [if_neg hne]
      rw [e]
      rcases seenM_cases s c k with ⟨h1, h2⟩ | ⟨j, h1, h2, h3⟩
      · refine .inl ⟨h1, fun j hj => ?_⟩
        rcases Nat.lt_succ_iff_lt_or_eq.1 hj with h3 | h3
        · exact h2 j h3
        · subst h3; exact h
      · exact .inr ⟨j, by omega, h2, h3⟩
theorem seenM_no {s : ByteArray} {k : Nat} (hk : k < s.size) (hd : DistTo s (k + 1)) : seenM s k (keyL s[k]) = none := by
  rcases seenM_cases s s[k] k with ⟨h1, _⟩ | ⟨j, h1, h2, h3⟩
  · exact h1
  · rw [byteAt_eq s j (by omega)] at h2
    have := hd j k (by omega) hk (by omega) (by omega) h2
    omega
theorem seenM_yes {s : ByteArray} {k : Nat} (hk : k < s.size) (hd : DistTo s k) (hn : ¬ DistTo s (k + 1)) : ∃ j : Nat, seenM s k (keyL s[k]) = some (j : Int) := by
  rcases seenM_cases s s[k] k with ⟨h1, h2⟩ | ⟨j, h1, h2, h3⟩
  · refine absurd (distTo_succ hk hd fun j hj hjk hh => h2 j hjk ?_) hn
    rw [byteAt_eq s j hj]; exact hh
  · exact ⟨j, h3⟩
theorem distTo_of {s : ByteArray} (h : Dist s) (k : Nat) : DistTo s k := fun a b ha hb _ _ hab => h a b ha hb hab
/-- With every letter laid, a look-up answers as the reference's index. -/
theorem seenM_all {s : ByteArray} (hd : Dist s) (c : UInt8) : (idx s c = -1 ∧ seenM s s.size (keyL c) = none) ∨ ∃ j : Nat, j < s.size ∧ idx s c = (j : Int) ∧ seenM s s.size (keyL c) = some (j : Int) := by
  rcases seenM_cases s c s.size with ⟨h1, h2⟩ | ⟨j, h1, h2, h3⟩
  · refine .inl ⟨?_, h1⟩
    rcases idx_cases s c with ⟨h4, _⟩ | ⟨j, hj, h4, h5, _⟩
    · exact h4
    · exact absurd (by rw [byteAt_eq s j hj]; exact h5) (h2 j hj)
  · rw [byteAt_eq s j h1] at h2
    exact .inr ⟨j, h1, dist_idx hd j h1 c h2, h3⟩
theorem keyU : Go.Maps.Keyed Try.prog 5 := Go.Maps.int_keyed Try.underlying5
theorem zeroI (w : World) : (zeroValue 3).run Try.prog w = .ok (.int .i64 0) w := by kernel_rfl
theorem keyU_at (c : UInt8) : keyOf Try.prog 5 (.int .u8 (c.toNat : Int)) = some (keyL c) := Go.Maps.keyOf_int_mk Try.underlying5 (by have := UInt8.toNat_lt c; simp [Lit.wf, IntKind.min, IntKind.max, IntKind.signed, IntKind.bits]; omega)
theorem wfI {n : Int} (h : 0 ≤ n ∧ n ≤ 1000) : (Lit.int .i64 n).wf = true := by simp [Lit.wf, IntKind.min, IntKind.max, IntKind.signed, IntKind.bits]; omega
end Go.Proofs.Ytampmnicnomknaa
