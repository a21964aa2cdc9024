/-
  WLayoutText: the walk through the law FnExactLayoutText: it returns true, and only new blocks are made.
-/
import Derived.Test.YtnliobhijmljpaaFLayText
import Derived.Test.YtnliobhijmljpaaTLayout
namespace Go.Proofs.Ytnliobhijmljpaa.fnExactLayoutText
open Go.ChangeShapes Go.WideShapes Go.ChangeAt Go.RowKit
set_option linter.unusedVariables false
attribute [local go_sem ↓] Go.wp_at_zero Go.wp_at_succ

set_option maxHeartbeats 4000000 in
set_option maxRecDepth 100000 in
theorem walk (A0 : Option Addr) (c0 : Nat) (xs0 : List ByteArray) (hx0 : xs0.length ≤ maxLen) (hk0 : ∀ x ∈ xs0, okStringS x) (w : World) (rx0 : Row w A0 encStr 1 xs0) :
    Calls Try.prog 7 #[.agg #[.slice A0 xs0.length c0]] w fun e w' => e = .returned (.bool true) ∧ Below w.heap.size w w' := by
  go_enter Try.func7, Try.ntmps7
  go_wp2_with fail
  have hB0 : Below w.heap.size w (w.alloc (.cells #[.slice A0 xs0.length c0] 24)) := by repeat (first | exact Below.refl _ _ | (apply bal))
  have lt0_0 : w.heap.size < (w.alloc (.cells #[.slice A0 xs0.length c0] 24)).heap.size := by simp
  have by0_0_0 : (w.alloc (.cells #[.slice A0 xs0.length c0] 24)).cell? ⟨w.heap.size, 0, none⟩ = some (.slice A0 xs0.length c0) := by simp [go_sem]
  generalize hW0 : (w.alloc (.cells #[.slice A0 xs0.length c0] 24)) = W0 at *
  clear hW0
  replace rx0 := rx0.below hB0
  go_wp2_with fail
  refine (szLayout_any _ _ xs0 _ hx0 hk0 (by omega) (by omega) _ rx0).mono ?_; rintro e w1 ⟨l0, rfl, hl0, hb1⟩
  have hB1 : Below W0.heap.size W0 w1 := hb1
  have by0_0_1 : w1.cell? ⟨w.heap.size, 0, none⟩ = some (.slice A0 xs0.length c0) := (hb1.cell (p := ⟨w.heap.size, 0, none⟩) lt0_0).trans by0_0_0
  have lt0_1 : w.heap.size < w1.heap.size := Nat.lt_of_lt_of_le lt0_0 hb1.size
  clear by0_0_0
  by_cases hnl0 : l0 < 0
  · go_wp2_with fail
    go_ret
    exact ⟨rfl, bnext hB0 (hB1)⟩
  have hl02 := hl0 (by omega)
  have hz0 : xs0.length ≤ 1048576 := by omega
  have hu0 : ∀ x ∈ xs0, KStringS x := fun x hx => by have := hl02.2.2 x hx; omega
  have l0b : l0 ≤ 1048576 := by omega
  have hl0h := Lib.hid hl02; clear hl0 hl02
  go_wp2_with fail
  go_wp2_with fail
  refine (toLayout_any _ _ xs0 hz0 _ (rx0.below hB1)).mono ?_; rintro e w2 ⟨v3, rfl, ho4, hb5⟩
  have hB2 : Below W0.heap.size W0 w2 := bnext hB1 hb5
  have by0_0_2 : w2.cell? ⟨w.heap.size, 0, none⟩ = some (.slice A0 xs0.length c0) := (hb5.cell (p := ⟨w.heap.size, 0, none⟩) lt0_1).trans by0_0_1
  have lt0_2 : w.heap.size < w2.heap.size := Nat.lt_of_lt_of_le lt0_1 hb5.size
  clear by0_0_1
  obtain ⟨A6, c7, rfl, rr8, hl9⟩ := ho4.form
  clear hl9
  go_wp2_with fail
  go_wp2_with fail
  refine (spec_LayoutText_any _ _ xs0 hz0 hu0 (own_capL ho4) _ rr8).mono ?_; rintro e w3 ⟨wr0, rfl, wR, hb10⟩
  have wRh := Lib.hid wR
  clear wR
  have hB3 : Below W0.heap.size W0 w3 := bnext hB2 hb10
  have by0_0_3 : w3.cell? ⟨w.heap.size, 0, none⟩ = some (.slice A0 xs0.length c0) := (hb10.cell (p := ⟨w.heap.size, 0, none⟩) lt0_2).trans by0_0_2
  have lt0_3 : w.heap.size < w3.heap.size := Nat.lt_of_lt_of_le lt0_2 hb10.size
  clear by0_0_2
  go_wp2_with fail
  go_wp2_with fail
  refine (toLayout_any _ _ xs0 hz0 _ (rx0.below hB3)).mono ?_; rintro e w4 ⟨v12, rfl, ho13, hb14⟩
  have hB4 : Below W0.heap.size W0 w4 := bnext hB3 hb14
  have by0_0_4 : w4.cell? ⟨w.heap.size, 0, none⟩ = some (.slice A0 xs0.length c0) := (hb14.cell (p := ⟨w.heap.size, 0, none⟩) lt0_3).trans by0_0_3
  have lt0_4 : w.heap.size < w4.heap.size := Nat.lt_of_lt_of_le lt0_3 hb14.size
  clear by0_0_3
  obtain ⟨A15, c16, rfl, rr17, hl18⟩ := ho13.form
  clear hl18
  go_wp2_with fail
  have hb19 : Below w4.heap.size w4 (w4.alloc (.cells #[.slice A15 xs0.length c16] 27)) := bal (Below.refl _ _) _
  have lt1_n : w4.heap.size < (w4.alloc (.cells #[.slice A15 xs0.length c16] 27)).heap.size := by simp
  have bn1_0 : (w4.alloc (.cells #[.slice A15 xs0.length c16] 27)).cell? ⟨w4.heap.size, 0, none⟩ = some (.slice A15 xs0.length c16) := by simp [go_sem]
  generalize hW20 : (w4.alloc (.cells #[.slice A15 xs0.length c16] 27)) = w5 at *
  clear hW20
  have hB5 : Below W0.heap.size W0 w5 := bnext hB4 hb19
  have by0_0_5 : w5.cell? ⟨w.heap.size, 0, none⟩ = some (.slice A0 xs0.length c0) := (hb19.cell (p := ⟨w.heap.size, 0, none⟩) lt0_4).trans by0_0_4
  have lt0_5 : w.heap.size < w5.heap.size := Nat.lt_of_lt_of_le lt0_4 hb19.size
  clear by0_0_4
  go_wp2_with fail
  refine (impl_LayoutText_any _ _ xs0 hz0 hu0 (own_capL ho13) _ (rr17.below hb19)).mono ?_; rintro e w6 ⟨gr0, rfl, gR, hb21⟩
  have gRh := Lib.hid gR
  clear gR
  have hB6 : Below W0.heap.size W0 w6 := bnext hB5 hb21
  have by0_0_6 : w6.cell? ⟨w.heap.size, 0, none⟩ = some (.slice A0 xs0.length c0) := (hb21.cell (p := ⟨w.heap.size, 0, none⟩) lt0_5).trans by0_0_5
  have lt0_6 : w.heap.size < w6.heap.size := Nat.lt_of_lt_of_le lt0_5 hb21.size
  clear by0_0_5
  have by1_0_6 : w6.cell? ⟨w4.heap.size, 0, none⟩ = some (.slice A15 xs0.length c16) := (hb21.cell (p := ⟨w4.heap.size, 0, none⟩) lt1_n).trans bn1_0
  have lt1_6 : w4.heap.size < w6.heap.size := Nat.lt_of_lt_of_le lt1_n hb21.size
  clear bn1_0
  have gQ := gRh.out.trans wRh.out.symm
  obtain rfl := gQ
  go_wp2_with fail
  go_region_held3 (fun w' => w'.cell? ⟨w.heap.size, 0, none⟩ = some (.slice A0 xs0.length c0) ∧ w'.cell? ⟨w4.heap.size, 0, none⟩ = some (.slice A15 xs0.length c16)) (first | exact ⟨by0_0_6, by1_0_6⟩ | exact ⟨by0_0_7, by1_0_7⟩ | exact ⟨by0_0_8, by1_0_8⟩) (first | (go_at_call_of 10 (A0); refine (toLayout_any _ _ xs0 hz0 _ ((rx0.below hB6)).drew).mono ?_; rintro e w7 ⟨v23, rfl, ho24, hb25⟩; replace hb25 := bundrew hb25; have hB7 : Below W0.heap.size W0 w7 := bnext hB6 hb25; have by0_0_7 : w7.cell? ⟨w.heap.size, 0, none⟩ = some (.slice A0 xs0.length c0) := (hb25.cell (p := ⟨w.heap.size, 0, none⟩) lt0_6).trans by0_0_6; have lt0_7 : w.heap.size < w7.heap.size := Nat.lt_of_lt_of_le lt0_6 hb25.size; have by1_0_7 : w7.cell? ⟨w4.heap.size, 0, none⟩ = some (.slice A15 xs0.length c16) := (hb25.cell (p := ⟨w4.heap.size, 0, none⟩) lt1_6).trans by1_0_6; have lt1_7 : w4.heap.size < w7.heap.size := Nat.lt_of_lt_of_le lt1_6 hb25.size; obtain ⟨A26, c27, rfl, rr28, hl29⟩ := ho24.form) | (go_at_call 12; refine (eqLayout_any _ _ _ _ xs0 xs0 (Nat.le_trans hz0 (by decide)) (Nat.le_trans hz0 (by decide)) _ (rr17.below (bnext hb19 (bnext hb21 hb25))) rr28).mono ?_; rintro e w8 ⟨b30, rfl, hq31, hb32⟩; obtain rfl : b30 = true := hq31.2 rfl; have hB8 : Below W0.heap.size W0 w8 := bnext hB7 hb32; have by0_0_8 : w8.cell? ⟨w.heap.size, 0, none⟩ = some (.slice A0 xs0.length c0) := (hb32.cell (p := ⟨w.heap.size, 0, none⟩) lt0_7).trans by0_0_7; have lt0_8 : w.heap.size < w8.heap.size := Nat.lt_of_lt_of_le lt0_7 hb32.size; have by1_0_8 : w8.cell? ⟨w4.heap.size, 0, none⟩ = some (.slice A15 xs0.length c16) := (hb32.cell (p := ⟨w4.heap.size, 0, none⟩) lt1_7).trans by1_0_7; have lt1_8 : w4.heap.size < w8.heap.size := Nat.lt_of_lt_of_le lt1_7 hb32.size))
  go_wp2_with fail
  go_ret
  exact ⟨rfl, bnext hB0 (hB8)⟩
end Go.Proofs.Ytnliobhijmljpaa.fnExactLayoutText
