/-
  WSameLayout: the walk through the law FnExactSameLayout: it returns true, and only new blocks are made.
-/
import Derived.Test.YtbdafliclhenlaaFSameLayout
namespace Go.Proofs.Ytbdafliclhenlaa.fnExactSameLayout
open Go.ChangeShapes Go.WideShapes Go.ChangeAt Go.RowKit
set_option linter.unusedVariables false
attribute [local go_sem ↓] Go.wp_at_zero Go.wp_at_succ

set_option maxHeartbeats 2000000 in
set_option maxRecDepth 10000 in
theorem walk (A0 : Option Addr) (c0 : Nat) (xs0 : List ByteArray) (hx0 : xs0.length ≤ maxLen) (hk0 : ∀ x ∈ xs0, okStringS x) (A1 : Option Addr) (c1 : Nat) (xs1 : List ByteArray) (hx1 : xs1.length ≤ maxLen) (hk1 : ∀ x ∈ xs1, okStringS x) (w : World) (rx0 : Row w A0 encStr 1 xs0) (rx1 : Row w A1 encStr 1 xs1) :
    Calls Try.prog 12 #[.agg #[.slice A0 xs0.length c0], .agg #[.slice A1 xs1.length c1]] w fun e w' => e = .returned (.bool true) ∧ Below w.heap.size w w' := by
  go_enter Try.func12, Try.ntmps12
  go_wp2_with fail
  have hB0 : Below w.heap.size w ((w.alloc (.cells #[.slice A0 xs0.length c0] 69)).alloc (.cells #[.slice A1 xs1.length c1] 69)) := by repeat (first | exact Below.refl _ _ | (apply bal))
  have lt0_0 : w.heap.size < ((w.alloc (.cells #[.slice A0 xs0.length c0] 69)).alloc (.cells #[.slice A1 xs1.length c1] 69)).heap.size := by simp; try omega
  have by0_0_0 : ((w.alloc (.cells #[.slice A0 xs0.length c0] 69)).alloc (.cells #[.slice A1 xs1.length c1] 69)).cell? ⟨w.heap.size, 0, none⟩ = some (.slice A0 xs0.length c0) := by simp [go_sem]
  have lt1_0 : w.heap.size + 1 < ((w.alloc (.cells #[.slice A0 xs0.length c0] 69)).alloc (.cells #[.slice A1 xs1.length c1] 69)).heap.size := by simp
  have by1_0_0 : ((w.alloc (.cells #[.slice A0 xs0.length c0] 69)).alloc (.cells #[.slice A1 xs1.length c1] 69)).cell? ⟨w.heap.size + 1, 0, none⟩ = some (.slice A1 xs1.length c1) := by simp [go_sem]
  generalize hW0 : ((w.alloc (.cells #[.slice A0 xs0.length c0] 69)).alloc (.cells #[.slice A1 xs1.length c1] 69)) = W0 at *
  clear hW0
  replace rx0 := rx0.below hB0
  replace rx1 := rx1.below hB0
  go_wp2_with fail
  refine (szLayout_any _ _ xs0 _ hx0 hk0 (by omega) (by omega) _ rx0).mono ?_; rintro e w1 ⟨l0, rfl, hl0, hb1⟩
  have hB1 : Below W0.heap.size W0 w1 := hb1
  have by0_0_1 : w1.cell? ⟨w.heap.size, 0, none⟩ = some (.slice A0 xs0.length c0) := (hb1.cell (p := ⟨w.heap.size, 0, none⟩) lt0_0).trans by0_0_0
  have lt0_1 : w.heap.size < w1.heap.size := Nat.lt_of_lt_of_le lt0_0 hb1.size
  clear by0_0_0
  have by1_0_1 : w1.cell? ⟨w.heap.size + 1, 0, none⟩ = some (.slice A1 xs1.length c1) := (hb1.cell (p := ⟨w.heap.size + 1, 0, none⟩) lt1_0).trans by1_0_0
  have lt1_1 : w.heap.size + 1 < w1.heap.size := Nat.lt_of_lt_of_le lt1_0 hb1.size
  clear by1_0_0
  by_cases hnl0 : l0 < 0
  · go_wp2_with fail
    go_ret
    exact ⟨rfl, bnext hB0 (hB1)⟩
  have hl02 := hl0 (by omega)
  have hz0 : xs0.length ≤ 1048576 := by omega
  have hu0 : ∀ x ∈ xs0, KStringS x := fun x hx => by have := hl02.2.2 x hx; omega
  have l0b : l0 ≤ 1048576 := by omega
  have hl0h := Lib.hid hl02; clear hl0 hl02
  go_wp2_with fail
  refine (szLayout_any _ _ xs1 _ hx1 hk1 (by omega) (by omega) _ (rx1.below hB1)).mono ?_; rintro e w2 ⟨l1, rfl, hl1, hb2⟩
  have hB2 : Below W0.heap.size W0 w2 := bnext hB1 hb2
  have by0_0_2 : w2.cell? ⟨w.heap.size, 0, none⟩ = some (.slice A0 xs0.length c0) := (hb2.cell (p := ⟨w.heap.size, 0, none⟩) lt0_1).trans by0_0_1
  have lt0_2 : w.heap.size < w2.heap.size := Nat.lt_of_lt_of_le lt0_1 hb2.size
  clear by0_0_1
  have by1_0_2 : w2.cell? ⟨w.heap.size + 1, 0, none⟩ = some (.slice A1 xs1.length c1) := (hb2.cell (p := ⟨w.heap.size + 1, 0, none⟩) lt1_1).trans by1_0_1
  have lt1_2 : w.heap.size + 1 < w2.heap.size := Nat.lt_of_lt_of_le lt1_1 hb2.size
  clear by1_0_1
  by_cases hnl1 : l1 < 0
  · go_wp2_with fail
    go_ret
    exact ⟨rfl, bnext hB0 (hB2)⟩
  have hl12 := hl1 (by omega)
  have hz1 : xs1.length ≤ 1048576 := by omega
  have hu1 : ∀ x ∈ xs1, KStringS x := fun x hx => by have := hl12.2.2 x hx; omega
  have l1b : l1 ≤ 1048576 := by omega
  have hl1h := Lib.hid hl12; clear hl1 hl12
  go_wp2_with fail
  go_region_held3 (fun w' => w'.cell? ⟨w.heap.size, 0, none⟩ = some (.slice A0 xs0.length c0) ∧ w'.cell? ⟨w.heap.size + 1, 0, none⟩ = some (.slice A1 xs1.length c1)) (first | exact ⟨by0_0_2, by1_0_2⟩ | exact ⟨by0_0_3, by1_0_3⟩ | exact ⟨by0_0_4, by1_0_4⟩ | exact ⟨by0_0_5, by1_0_5⟩) (first | (go_at_call_of 47 (A0); refine (toLayout_any _ _ xs0 hz0 _ ((rx0.below hB2)).drew).mono ?_; rintro e w3 ⟨v4, rfl, ho5, hb6⟩; replace hb6 := bundrew hb6; have hB3 : Below W0.heap.size W0 w3 := bnext hB2 hb6; have by0_0_3 : w3.cell? ⟨w.heap.size, 0, none⟩ = some (.slice A0 xs0.length c0) := (hb6.cell (p := ⟨w.heap.size, 0, none⟩) lt0_2).trans by0_0_2; have lt0_3 : w.heap.size < w3.heap.size := Nat.lt_of_lt_of_le lt0_2 hb6.size; have by1_0_3 : w3.cell? ⟨w.heap.size + 1, 0, none⟩ = some (.slice A1 xs1.length c1) := (hb6.cell (p := ⟨w.heap.size + 1, 0, none⟩) lt1_2).trans by1_0_2; have lt1_3 : w.heap.size + 1 < w3.heap.size := Nat.lt_of_lt_of_le lt1_2 hb6.size; obtain ⟨A7, c8, rfl, rr9, hl10⟩ := ho5.form) | (go_at_call_of 47 (A1); refine (toLayout_any _ _ xs1 hz1 _ (rx1.below hB3)).mono ?_; rintro e w4 ⟨v12, rfl, ho13, hb14⟩; have hB4 : Below W0.heap.size W0 w4 := bnext hB3 hb14; have by0_0_4 : w4.cell? ⟨w.heap.size, 0, none⟩ = some (.slice A0 xs0.length c0) := (hb14.cell (p := ⟨w.heap.size, 0, none⟩) lt0_3).trans by0_0_3; have lt0_4 : w.heap.size < w4.heap.size := Nat.lt_of_lt_of_le lt0_3 hb14.size; have by1_0_4 : w4.cell? ⟨w.heap.size + 1, 0, none⟩ = some (.slice A1 xs1.length c1) := (hb14.cell (p := ⟨w.heap.size + 1, 0, none⟩) lt1_3).trans by1_0_3; have lt1_4 : w.heap.size + 1 < w4.heap.size := Nat.lt_of_lt_of_le lt1_3 hb14.size; obtain ⟨A15, c16, rfl, rr17, hl18⟩ := ho13.form) | (go_at_call 46; refine (spec_SameLayout_any _ _ xs0 hz0 hu0 _ _ xs1 hz1 hu1 _ (rr9.below hb14) rr17).mono ?_; rintro e w5 ⟨wr0, rfl, wR, hb19⟩; have wRh := Lib.hid wR; clear wR; have hB5 : Below W0.heap.size W0 w5 := bnext hB4 hb19; have by0_0_5 : w5.cell? ⟨w.heap.size, 0, none⟩ = some (.slice A0 xs0.length c0) := (hb19.cell (p := ⟨w.heap.size, 0, none⟩) lt0_4).trans by0_0_4; have lt0_5 : w.heap.size < w5.heap.size := Nat.lt_of_lt_of_le lt0_4 hb19.size; have by1_0_5 : w5.cell? ⟨w.heap.size + 1, 0, none⟩ = some (.slice A1 xs1.length c1) := (hb19.cell (p := ⟨w.heap.size + 1, 0, none⟩) lt1_4).trans by1_0_4; have lt1_5 : w.heap.size + 1 < w5.heap.size := Nat.lt_of_lt_of_le lt1_4 hb19.size))
  go_wp2_with fail
  go_wp2_with fail
  refine (toLayout_any _ _ xs0 hz0 _ (rx0.below hB5)).mono ?_; rintro e w6 ⟨v21, rfl, ho22, hb23⟩
  have hB6 : Below W0.heap.size W0 w6 := bnext hB5 hb23
  have by0_0_6 : w6.cell? ⟨w.heap.size, 0, none⟩ = some (.slice A0 xs0.length c0) := (hb23.cell (p := ⟨w.heap.size, 0, none⟩) lt0_5).trans by0_0_5
  have lt0_6 : w.heap.size < w6.heap.size := Nat.lt_of_lt_of_le lt0_5 hb23.size
  clear by0_0_5
  have by1_0_6 : w6.cell? ⟨w.heap.size + 1, 0, none⟩ = some (.slice A1 xs1.length c1) := (hb23.cell (p := ⟨w.heap.size + 1, 0, none⟩) lt1_5).trans by1_0_5
  have lt1_6 : w.heap.size + 1 < w6.heap.size := Nat.lt_of_lt_of_le lt1_5 hb23.size
  clear by1_0_5
  obtain ⟨A24, c25, rfl, rr26, hl27⟩ := ho22.form
  go_wp2_with fail
  have hb32 : Below w6.heap.size w6 (w6.alloc (.cells #[.slice A24 xs0.length c25] 72)) := bal (Below.refl _ _) _
  have lt2_n : w6.heap.size < (w6.alloc (.cells #[.slice A24 xs0.length c25] 72)).heap.size := by simp
  have bn2_0 : (w6.alloc (.cells #[.slice A24 xs0.length c25] 72)).cell? ⟨w6.heap.size, 0, none⟩ = some (.slice A24 xs0.length c25) := by simp [go_sem]
  generalize hW33 : (w6.alloc (.cells #[.slice A24 xs0.length c25] 72)) = w7 at *
  clear hW33
  have hB7 : Below W0.heap.size W0 w7 := bnext hB6 hb32
  have by0_0_7 : w7.cell? ⟨w.heap.size, 0, none⟩ = some (.slice A0 xs0.length c0) := (hb32.cell (p := ⟨w.heap.size, 0, none⟩) lt0_6).trans by0_0_6
  have lt0_7 : w.heap.size < w7.heap.size := Nat.lt_of_lt_of_le lt0_6 hb32.size
  clear by0_0_6
  have by1_0_7 : w7.cell? ⟨w.heap.size + 1, 0, none⟩ = some (.slice A1 xs1.length c1) := (hb32.cell (p := ⟨w.heap.size + 1, 0, none⟩) lt1_6).trans by1_0_6
  have lt1_7 : w.heap.size + 1 < w7.heap.size := Nat.lt_of_lt_of_le lt1_6 hb32.size
  clear by1_0_6
  go_wp2_with fail
  refine (toLayout_any _ _ xs1 hz1 _ (rx1.below hB7)).mono ?_; rintro e w8 ⟨v29, rfl, ho30, hb31⟩
  have hB8 : Below W0.heap.size W0 w8 := bnext hB7 hb31
  have by0_0_8 : w8.cell? ⟨w.heap.size, 0, none⟩ = some (.slice A0 xs0.length c0) := (hb31.cell (p := ⟨w.heap.size, 0, none⟩) lt0_7).trans by0_0_7
  have lt0_8 : w.heap.size < w8.heap.size := Nat.lt_of_lt_of_le lt0_7 hb31.size
  clear by0_0_7
  have by1_0_8 : w8.cell? ⟨w.heap.size + 1, 0, none⟩ = some (.slice A1 xs1.length c1) := (hb31.cell (p := ⟨w.heap.size + 1, 0, none⟩) lt1_7).trans by1_0_7
  have lt1_8 : w.heap.size + 1 < w8.heap.size := Nat.lt_of_lt_of_le lt1_7 hb31.size
  clear by1_0_7
  have by2_0_8 : w8.cell? ⟨w6.heap.size, 0, none⟩ = some (.slice A24 xs0.length c25) := (hb31.cell (p := ⟨w6.heap.size, 0, none⟩) lt2_n).trans bn2_0
  have lt2_8 : w6.heap.size < w8.heap.size := Nat.lt_of_lt_of_le lt2_n hb31.size
  clear bn2_0
  obtain ⟨A34, c35, rfl, rr36, hl37⟩ := ho30.form
  go_wp2_with fail
  have hb38 : Below w8.heap.size w8 (w8.alloc (.cells #[.slice A34 xs1.length c35] 72)) := bal (Below.refl _ _) _
  have lt3_n : w8.heap.size < (w8.alloc (.cells #[.slice A34 xs1.length c35] 72)).heap.size := by simp
  have bn3_0 : (w8.alloc (.cells #[.slice A34 xs1.length c35] 72)).cell? ⟨w8.heap.size, 0, none⟩ = some (.slice A34 xs1.length c35) := by simp [go_sem]
  generalize hW39 : (w8.alloc (.cells #[.slice A34 xs1.length c35] 72)) = w9 at *
  clear hW39
  have hB9 : Below W0.heap.size W0 w9 := bnext hB8 hb38
  have by0_0_9 : w9.cell? ⟨w.heap.size, 0, none⟩ = some (.slice A0 xs0.length c0) := (hb38.cell (p := ⟨w.heap.size, 0, none⟩) lt0_8).trans by0_0_8
  have lt0_9 : w.heap.size < w9.heap.size := Nat.lt_of_lt_of_le lt0_8 hb38.size
  clear by0_0_8
  have by1_0_9 : w9.cell? ⟨w.heap.size + 1, 0, none⟩ = some (.slice A1 xs1.length c1) := (hb38.cell (p := ⟨w.heap.size + 1, 0, none⟩) lt1_8).trans by1_0_8
  have lt1_9 : w.heap.size + 1 < w9.heap.size := Nat.lt_of_lt_of_le lt1_8 hb38.size
  clear by1_0_8
  have by2_0_9 : w9.cell? ⟨w6.heap.size, 0, none⟩ = some (.slice A24 xs0.length c25) := (hb38.cell (p := ⟨w6.heap.size, 0, none⟩) lt2_8).trans by2_0_8
  have lt2_9 : w6.heap.size < w9.heap.size := Nat.lt_of_lt_of_le lt2_8 hb38.size
  clear by2_0_8
  go_wp2_with fail
  refine (impl_SameLayout_any _ _ xs0 hz0 hu0 _ _ xs1 hz1 hu1 _ (rr26.below (bnext hb32 (bnext hb31 hb38))) (rr36.below hb38)).mono ?_; rintro e w10 ⟨gr0, rfl, gR, hb40⟩
  have gRh := Lib.hid gR
  clear gR
  have hB10 : Below W0.heap.size W0 w10 := bnext hB9 hb40
  have by0_0_10 : w10.cell? ⟨w.heap.size, 0, none⟩ = some (.slice A0 xs0.length c0) := (hb40.cell (p := ⟨w.heap.size, 0, none⟩) lt0_9).trans by0_0_9
  have lt0_10 : w.heap.size < w10.heap.size := Nat.lt_of_lt_of_le lt0_9 hb40.size
  clear by0_0_9
  have by1_0_10 : w10.cell? ⟨w.heap.size + 1, 0, none⟩ = some (.slice A1 xs1.length c1) := (hb40.cell (p := ⟨w.heap.size + 1, 0, none⟩) lt1_9).trans by1_0_9
  have lt1_10 : w.heap.size + 1 < w10.heap.size := Nat.lt_of_lt_of_le lt1_9 hb40.size
  clear by1_0_9
  have by2_0_10 : w10.cell? ⟨w6.heap.size, 0, none⟩ = some (.slice A24 xs0.length c25) := (hb40.cell (p := ⟨w6.heap.size, 0, none⟩) lt2_9).trans by2_0_9
  have lt2_10 : w6.heap.size < w10.heap.size := Nat.lt_of_lt_of_le lt2_9 hb40.size
  clear by2_0_9
  have by3_0_10 : w10.cell? ⟨w8.heap.size, 0, none⟩ = some (.slice A34 xs1.length c35) := (hb40.cell (p := ⟨w8.heap.size, 0, none⟩) lt3_n).trans bn3_0
  have lt3_10 : w8.heap.size < w10.heap.size := Nat.lt_of_lt_of_le lt3_n hb40.size
  clear bn3_0
  have gQ : gr0 = wr0 := by rw [Bool.eq_iff_iff]; exact gRh.out.trans wRh.out.symm
  subst gQ
  go_wp2_with fail
  go_region_held3 (fun w' => w'.cell? ⟨w.heap.size, 0, none⟩ = some (.slice A0 xs0.length c0) ∧ w'.cell? ⟨w.heap.size + 1, 0, none⟩ = some (.slice A1 xs1.length c1) ∧ w'.cell? ⟨w6.heap.size, 0, none⟩ = some (.slice A24 xs0.length c25) ∧ w'.cell? ⟨w8.heap.size, 0, none⟩ = some (.slice A34 xs1.length c35)) (first | exact ⟨by0_0_10, by1_0_10, by2_0_10, by3_0_10⟩ | exact ⟨by0_0_11, by1_0_11, by2_0_11, by3_0_11⟩ | exact ⟨by0_0_12, by1_0_12, by2_0_12, by3_0_12⟩) (first | (go_at_call_of 47 (A0); refine (toLayout_any _ _ xs0 hz0 _ ((rx0.below hB10)).drew).mono ?_; rintro e w11 ⟨v42, rfl, ho43, hb44⟩; replace hb44 := bundrew hb44; have hB11 : Below W0.heap.size W0 w11 := bnext hB10 hb44; have by0_0_11 : w11.cell? ⟨w.heap.size, 0, none⟩ = some (.slice A0 xs0.length c0) := (hb44.cell (p := ⟨w.heap.size, 0, none⟩) lt0_10).trans by0_0_10; have lt0_11 : w.heap.size < w11.heap.size := Nat.lt_of_lt_of_le lt0_10 hb44.size; have by1_0_11 : w11.cell? ⟨w.heap.size + 1, 0, none⟩ = some (.slice A1 xs1.length c1) := (hb44.cell (p := ⟨w.heap.size + 1, 0, none⟩) lt1_10).trans by1_0_10; have lt1_11 : w.heap.size + 1 < w11.heap.size := Nat.lt_of_lt_of_le lt1_10 hb44.size; have by2_0_11 : w11.cell? ⟨w6.heap.size, 0, none⟩ = some (.slice A24 xs0.length c25) := (hb44.cell (p := ⟨w6.heap.size, 0, none⟩) lt2_10).trans by2_0_10; have lt2_11 : w6.heap.size < w11.heap.size := Nat.lt_of_lt_of_le lt2_10 hb44.size; have by3_0_11 : w11.cell? ⟨w8.heap.size, 0, none⟩ = some (.slice A34 xs1.length c35) := (hb44.cell (p := ⟨w8.heap.size, 0, none⟩) lt3_10).trans by3_0_10; have lt3_11 : w8.heap.size < w11.heap.size := Nat.lt_of_lt_of_le lt3_10 hb44.size; obtain ⟨A45, c46, rfl, rr47, hl48⟩ := ho43.form) | (go_at_call 49; refine (eqLayout_any _ _ _ _ xs0 xs0 (Nat.le_trans hz0 (by decide)) (Nat.le_trans hz0 (by decide)) _ (rr26.below (bnext hb32 (bnext hb31 (bnext hb38 (bnext hb40 hb44))))) rr47).mono ?_; rintro e w12 ⟨b49, rfl, hq50, hb51⟩; obtain rfl : b49 = true := hq50.2 rfl; have hB12 : Below W0.heap.size W0 w12 := bnext hB11 hb51; have by0_0_12 : w12.cell? ⟨w.heap.size, 0, none⟩ = some (.slice A0 xs0.length c0) := (hb51.cell (p := ⟨w.heap.size, 0, none⟩) lt0_11).trans by0_0_11; have lt0_12 : w.heap.size < w12.heap.size := Nat.lt_of_lt_of_le lt0_11 hb51.size; have by1_0_12 : w12.cell? ⟨w.heap.size + 1, 0, none⟩ = some (.slice A1 xs1.length c1) := (hb51.cell (p := ⟨w.heap.size + 1, 0, none⟩) lt1_11).trans by1_0_11; have lt1_12 : w.heap.size + 1 < w12.heap.size := Nat.lt_of_lt_of_le lt1_11 hb51.size; have by2_0_12 : w12.cell? ⟨w6.heap.size, 0, none⟩ = some (.slice A24 xs0.length c25) := (hb51.cell (p := ⟨w6.heap.size, 0, none⟩) lt2_11).trans by2_0_11; have lt2_12 : w6.heap.size < w12.heap.size := Nat.lt_of_lt_of_le lt2_11 hb51.size; have by3_0_12 : w12.cell? ⟨w8.heap.size, 0, none⟩ = some (.slice A34 xs1.length c35) := (hb51.cell (p := ⟨w8.heap.size, 0, none⟩) lt3_11).trans by3_0_11; have lt3_12 : w8.heap.size < w12.heap.size := Nat.lt_of_lt_of_le lt3_11 hb51.size))
  go_wp2_with fail
  go_region_held3 (fun w' => w'.cell? ⟨w.heap.size, 0, none⟩ = some (.slice A0 xs0.length c0) ∧ w'.cell? ⟨w.heap.size + 1, 0, none⟩ = some (.slice A1 xs1.length c1) ∧ w'.cell? ⟨w6.heap.size, 0, none⟩ = some (.slice A24 xs0.length c25) ∧ w'.cell? ⟨w8.heap.size, 0, none⟩ = some (.slice A34 xs1.length c35)) (first | exact ⟨by0_0_12, by1_0_12, by2_0_12, by3_0_12⟩ | exact ⟨by0_0_13, by1_0_13, by2_0_13, by3_0_13⟩ | exact ⟨by0_0_14, by1_0_14, by2_0_14, by3_0_14⟩) (first | (go_at_call_of 47 (A1); refine (toLayout_any _ _ xs1 hz1 _ ((rx1.below hB12)).drew).mono ?_; rintro e w13 ⟨v53, rfl, ho54, hb55⟩; replace hb55 := bundrew hb55; have hB13 : Below W0.heap.size W0 w13 := bnext hB12 hb55; have by0_0_13 : w13.cell? ⟨w.heap.size, 0, none⟩ = some (.slice A0 xs0.length c0) := (hb55.cell (p := ⟨w.heap.size, 0, none⟩) lt0_12).trans by0_0_12; have lt0_13 : w.heap.size < w13.heap.size := Nat.lt_of_lt_of_le lt0_12 hb55.size; have by1_0_13 : w13.cell? ⟨w.heap.size + 1, 0, none⟩ = some (.slice A1 xs1.length c1) := (hb55.cell (p := ⟨w.heap.size + 1, 0, none⟩) lt1_12).trans by1_0_12; have lt1_13 : w.heap.size + 1 < w13.heap.size := Nat.lt_of_lt_of_le lt1_12 hb55.size; have by2_0_13 : w13.cell? ⟨w6.heap.size, 0, none⟩ = some (.slice A24 xs0.length c25) := (hb55.cell (p := ⟨w6.heap.size, 0, none⟩) lt2_12).trans by2_0_12; have lt2_13 : w6.heap.size < w13.heap.size := Nat.lt_of_lt_of_le lt2_12 hb55.size; have by3_0_13 : w13.cell? ⟨w8.heap.size, 0, none⟩ = some (.slice A34 xs1.length c35) := (hb55.cell (p := ⟨w8.heap.size, 0, none⟩) lt3_12).trans by3_0_12; have lt3_13 : w8.heap.size < w13.heap.size := Nat.lt_of_lt_of_le lt3_12 hb55.size; obtain ⟨A56, c57, rfl, rr58, hl59⟩ := ho54.form) | (go_at_call 49; refine (eqLayout_any _ _ _ _ xs1 xs1 (Nat.le_trans hz1 (by decide)) (Nat.le_trans hz1 (by decide)) _ (rr36.below (bnext hb38 (bnext hb40 (bnext hb44 (bnext hb51 hb55))))) rr58).mono ?_; rintro e w14 ⟨b60, rfl, hq61, hb62⟩; obtain rfl : b60 = true := hq61.2 rfl; have hB14 : Below W0.heap.size W0 w14 := bnext hB13 hb62; have by0_0_14 : w14.cell? ⟨w.heap.size, 0, none⟩ = some (.slice A0 xs0.length c0) := (hb62.cell (p := ⟨w.heap.size, 0, none⟩) lt0_13).trans by0_0_13; have lt0_14 : w.heap.size < w14.heap.size := Nat.lt_of_lt_of_le lt0_13 hb62.size; have by1_0_14 : w14.cell? ⟨w.heap.size + 1, 0, none⟩ = some (.slice A1 xs1.length c1) := (hb62.cell (p := ⟨w.heap.size + 1, 0, none⟩) lt1_13).trans by1_0_13; have lt1_14 : w.heap.size + 1 < w14.heap.size := Nat.lt_of_lt_of_le lt1_13 hb62.size; have by2_0_14 : w14.cell? ⟨w6.heap.size, 0, none⟩ = some (.slice A24 xs0.length c25) := (hb62.cell (p := ⟨w6.heap.size, 0, none⟩) lt2_13).trans by2_0_13; have lt2_14 : w6.heap.size < w14.heap.size := Nat.lt_of_lt_of_le lt2_13 hb62.size; have by3_0_14 : w14.cell? ⟨w8.heap.size, 0, none⟩ = some (.slice A34 xs1.length c35) := (hb62.cell (p := ⟨w8.heap.size, 0, none⟩) lt3_13).trans by3_0_13; have lt3_14 : w8.heap.size < w14.heap.size := Nat.lt_of_lt_of_le lt3_13 hb62.size))
  go_wp2_with fail
  go_ret
  exact ⟨rfl, bnext hB0 (hB14)⟩
end Go.Proofs.Ytbdafliclhenlaa.fnExactSameLayout
