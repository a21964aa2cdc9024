/-
  TLayout: contracts of toLayout, szLayout, eqLayout. Printed by wip/gen_lists.py.
-/
import Derived.Test.YteepcnfpdmmnhaaTStringS
import Derived.Test.YteepcnfpdmmnhaaMore
namespace Go.Proofs.Yteepcnfpdmmnhaa
open Go.RowKit
set_option linter.unusedVariables false
attribute [local go_sem ↓] Go.wp_at_zero Go.wp_at_succ
set_option maxHeartbeats 400000 in
theorem szLayout_any (A : Option Addr) (c : Nat) (xs : List ByteArray) (l : Int) (hn : xs.length ≤ maxLen) (hxs : ∀ x ∈ xs, okStringS x) (h0 : 0 ≤ l) (h1 : l ≤ 1048576) (w : World) (rx : Row w A encStr 1 xs) :
    Calls Try.prog 33 #[.agg #[.slice A xs.length c], .int .i64 l] w fun e w' => ∃ r : Int, e = .returned (.int .i64 r) ∧ (0 ≤ r → (xs.length : Int) ≤ l ∧ r ≤ l ∧ ∀ x ∈ xs, (x.size : Int) ≤ l) ∧ Below w.heap.size w w' := by
  go_enter Try.func33, Try.ntmps33
  go_wp2_with (go_at_call 86; refine (szStringS_any _ _ xs l hn hxs h0 h1 _ (rx.below (bal (Below.refl _ _) _))).mono ?_; rintro e w1 ⟨r, rfl, hr, hb1⟩)
  all_goals go_ret
  · exact ⟨_, rfl, by omega, bnext (bal (Below.refl _ _) _) hb1⟩
  · exact ⟨_, rfl, hr, bnext (bal (Below.refl _ _) _) hb1⟩
set_option maxHeartbeats 400000 in
theorem toLayout_any (A : Option Addr) (c : Nat) (xs : List ByteArray) (hx : xs.length ≤ 1048576) (w : World) (rx : Row w A encStr 1 xs) :
    Calls Try.prog 35 #[.agg #[.slice A xs.length c]] w fun e w' => ∃ v, e = .returned (.agg #[v]) ∧ Own w' w.heap.size 9 encStr 1 v xs ∧ Below w.heap.size w w' := by
  go_enter Try.func35, Try.ntmps35
  go_wp2_with fail
  have hW0 : Below w.heap.size w (((w.alloc (.cells #[.slice A xs.length c] 52)).alloc (.cells #[.slice none 0 0] 46)).alloc (.cells #[.slice none 0 0] 46)) := by repeat (first | exact Below.refl _ _ | (apply bal))
  have hs1 : w.heap.size + 1 < (((w.alloc (.cells #[.slice A xs.length c] 52)).alloc (.cells #[.slice none 0 0] 46)).alloc (.cells #[.slice none 0 0] 46)).heap.size := by simp
  have hs2 : w.heap.size + 1 + 1 < (((w.alloc (.cells #[.slice A xs.length c] 52)).alloc (.cells #[.slice none 0 0] 46)).alloc (.cells #[.slice none 0 0] 46)).heap.size := by simp
  have c1 : (((w.alloc (.cells #[.slice A xs.length c] 52)).alloc (.cells #[.slice none 0 0] 46)).alloc (.cells #[.slice none 0 0] 46)).cell? ⟨w.heap.size + 1, 0, none⟩ = some (.slice none 0 0) := by simp [go_sem]
  have c2 : (((w.alloc (.cells #[.slice A xs.length c] 52)).alloc (.cells #[.slice none 0 0] 46)).alloc (.cells #[.slice none 0 0] 46)).cell? ⟨w.heap.size + 1 + 1, 0, none⟩ = some (.slice none 0 0) := by simp [go_sem]
  have f1 : (((w.alloc (.cells #[.slice A xs.length c] 52)).alloc (.cells #[.slice none 0 0] 46)).alloc (.cells #[.slice none 0 0] 46)).frozen? ⟨w.heap.size + 1, 0, none⟩ = false := by simp [go_sem]
  have f2 : (((w.alloc (.cells #[.slice A xs.length c] 52)).alloc (.cells #[.slice none 0 0] 46)).alloc (.cells #[.slice none 0 0] 46)).frozen? ⟨w.heap.size + 1 + 1, 0, none⟩ = false := by simp [go_sem]
  generalize hW : ((w.alloc (.cells #[.slice A xs.length c] 52)).alloc (.cells #[.slice none 0 0] 46)).alloc (.cells #[.slice none 0 0] 46) = W at *
  refine (toStringS_any _ _ xs hx _ (rx.below hW0)).mono ?_; rintro e w1 ⟨v, rfl, ho, hb1⟩
  have d1 := (hb1.cell (p := ⟨w.heap.size + 1, 0, none⟩) hs1).trans c1
  have d2 := (hb1.cell (p := ⟨w.heap.size + 1 + 1, 0, none⟩) hs2).trans c2
  have g1 := (hb1.frozen (p := ⟨w.heap.size + 1, 0, none⟩) hs1).trans f1
  have g2 := (hb1.frozen (p := ⟨w.heap.size + 1 + 1, 0, none⟩) hs2).trans f2
  obtain ⟨A', c', rfl, hr, hlt⟩ := ho.form
  have hw1 := hb1.size
  go_wp2_with fail
  refine bodyPost_ret (v := .agg #[.slice A' xs.length c']) (by simp [results, Try.results35, go_sem, d1]) rfl ⟨_, rfl, ?_, ((hW0.trans (hb1.mono hW0.size)).setCell (by show _ ≤ w.heap.size + 1 + 1; omega) _).setCell (by show _ ≤ w.heap.size + 1; omega) _⟩
  exact ((ho.setBelow (a := ⟨w.heap.size + 1 + 1, 0, none⟩) hs2 _).setBelow (a := ⟨w.heap.size + 1, 0, none⟩) hs1 _).mono hW0.size
set_option maxHeartbeats 400000 in
theorem eqLayout_any (A C : Option Addr) (c d : Nat) (xs ys : List ByteArray) (hx : xs.length ≤ 1099511627776) (hy : ys.length ≤ 1099511627776) (w : World) (rx : Row w A encStr 1 xs) (ry : Row w C encStr 1 ys) :
    Calls Try.prog 30 #[.agg #[.slice A xs.length c], .agg #[.slice C ys.length d]] w fun e w' => ∃ b : Bool, e = .returned (.bool b) ∧ (b = true ↔ xs = ys) ∧ Below w.heap.size w w' := by
  go_enter Try.func30, Try.ntmps30
  go_wp2_with (go_at_call 83; refine (eqStringS_any _ _ _ _ xs ys hx hy _ (rx.below (bal (bal (Below.refl _ _) _) _)) (ry.below (bal (bal (Below.refl _ _) _) _))).mono ?_; rintro e w1 ⟨b, rfl, hb, hb1⟩; cases b)
  all_goals go_ret
  all_goals exact ⟨_, rfl, by simpa using hb, bnext (bal (bal (Below.refl _ _) _) _) hb1⟩
end Go.Proofs.Yteepcnfpdmmnhaa
