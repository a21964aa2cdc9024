/-
  FPressD: PressText and ReadPress, spec and impl. Printed by wip/gen_rp.py.
-/
import Derived.Test.YtlpfhmcjacimlaaDoorFNum
import Derived.Test.YtlpfhmcjacimlaaDoorFPure
import Derived.Test.YtlpfhmcjacimlaaDoorBlks
import Derived.Test.YtlpfhmcjacimlaaDoorTPress
namespace Go.Proofs.YtlpfhmcjacimlaaDoor
open Go.RowKit
set_option linter.unusedVariables false
attribute [local go_sem ↓] Go.wp_at_zero Go.wp_at_succ
set_option linter.unusedSimpArgs false
theorem dstr_small {n : Int} (h : 0 ≤ n ∧ n ≤ 39) : (dstr n).size ≤ 2 := by
  have h1 : (dstr n).size = (Lib.decDigits n.toNat).length := by unfold dstr Lib.itoa; rw [if_neg (by omega)]; simp [ByteArray.size]
  rw [h1, Lib.decDigits_length]
  exact nDigits_le 1 n.toNat (by omega)
def hatB : ByteArray := ⟨#[94]⟩
def pText (x : TPress) : ByteArray := if x.2 = true then hatB ++ dstr x.1 else dstr x.1
def M_PressText (x : TPress) : ByteArray := if 0 ≤ x.1 ∧ x.1 ≤ 39 then pText x else ⟨#[]⟩
def shiftB (s : ByteArray) : Bool := if h : 0 < s.size then decide (s[0].toNat = 94) else false
def restB (s : ByteArray) : ByteArray := if shiftB s = true then s.extract 1 s.size else s
noncomputable def rpOf (m : Int × Bool) (sh : Bool) : TPress × Bool := if m.2 = true ∧ 0 ≤ m.1 ∧ m.1 ≤ 39 then ((m.1, sh), true) else ((0, false), false)
noncomputable def M_ReadPress (s : ByteArray) : TPress × Bool := rpOf (M_Num (restB s)) (shiftB s)
def RPB2 (m : TPress × Bool) (w : World) (e : Ending) (w' : World) : Prop := ∃ (p : TPress) (b : Bool), e = .returned (.tuple #[.agg #[.int .i64 p.1, .bool p.2], .bool b]) ∧ (p, b) = m ∧ Below w.heap.size w w'
def At2 (w : World) (b : Nat) (T : TypeId) (x0 x1 : Value) : Prop := w.heap[b]? = some (.cells #[x0, x1] T (0, 0))
section
variable {w w' : World} {b : Nat} {T : TypeId} {x0 x1 : Value}
theorem At2.new (w : World) (T : TypeId) (x0 x1 : Value) : At2 (w.alloc (.cells #[x0, x1] T)) w.heap.size T x0 x1 := heap_alloc_new w _
theorem At2.lt (h : At2 w b T x0 x1) : b < w.heap.size := blk_lt h
theorem At2.frozen (h : At2 w b T x0 x1) (i : Nat) : w.frozen? ⟨b, i, none⟩ = false := blk_frozen h i
theorem At2.below (h : At2 w b T x0 x1) (hb : Below w.heap.size w w') : At2 w' b T x0 x1 := (hb.block b h.lt).trans h
theorem At2.alloc (h : At2 w b T x0 x1) (o : Obj) : At2 (w.alloc o) b T x0 x1 := h.below (bal (Below.refl _ _) o)
theorem At2.setOther (h : At2 w b T x0 x1) (g i : Nat) (u : Value) (hne : b ≠ g) : At2 (w.setCell ⟨g, i, none⟩ u) b T x0 x1 := (Below.heap_setCell w _ u b hne).trans h
theorem At2.cell0 (h : At2 w b T x0 x1) : w.cell? ⟨b, 0, none⟩ = some x0 := by rw [blk_cell h]; rfl
theorem At2.cell1 (h : At2 w b T x0 x1) : w.cell? ⟨b, 1, none⟩ = some x1 := by rw [blk_cell h]; rfl
end
set_option maxHeartbeats 1600000 in
theorem l02PressText_any (x : TPress) (hx : 0 ≤ x.1 ∧ x.1 ≤ 39) (ha0 : I64 x.1) (w : World) : Calls Tryd.prog 20 #[.agg #[.int .i64 x.1, .bool x.2]] w fun e w' => e = .returned (.string (pText x)) ∧ Below w.heap.size w w' := by
  obtain ⟨a, b⟩ := x
  have hB0 : Below w.heap.size w (w.alloc (.cells #[.int .i64 a, .bool b] 27)) := bal (Below.refl _ _) _
  have h : 0 ≤ a ∧ a ≤ 39 := hx
  have ha : I64 a := ha0
  have hsz := dstr_small h
  have HC := Lib.hid (fun W => l01Dec_any a ha W)
  obtain ⟨D, hD⟩ : ∃ D, dstr a = D := ⟨_, rfl⟩
  rw [hD] at hsz HC
  cases b with
  | false =>
    have HE := Lib.hid (show pText (a, false) = D by unfold pText; rw [if_neg (by simp), hD])
    clear hD
    go_enter Tryd.func20, Tryd.ntmps20
    go_wp2_with (go_at_call 17; refine (HC.out _).mono ?_; rintro e w5 ⟨rfl, hb5⟩)
    go_ret
    exact ⟨congrArg (fun z => Ending.returned (.string z)) HE.out.symm, bnext hB0 hb5⟩
  | true =>
    have HE := Lib.hid (show pText (a, true) = hatB ++ D by unfold pText; rw [if_pos rfl, hD])
    clear hD
    go_enter Tryd.func20, Tryd.ntmps20
    go_wp2_with (go_at_call 17; refine (HC.out _).mono ?_; rintro e w5 ⟨rfl, hb5⟩)
    go_ret
    exact ⟨congrArg (fun z => Ending.returned (.string z)) HE.out.symm, bnext hB0 hb5⟩
set_option maxHeartbeats 1600000 in
theorem spec_PressText_any (x : TPress) (hx : okPress x) (w : World) : Calls Tryd.prog 9 #[.agg #[.int .i64 x.1, .bool x.2]] w (RS1 (M_PressText x) w) := by
  obtain ⟨a, b⟩ := x
  have hB0 : Below w.heap.size w (w.alloc (.cells #[.int .i64 a, .bool b] 27)) := bal (Below.refl _ _) _
  have ha : I64 a := by first | exact hx | exact hx.1
  by_cases h : 0 ≤ a ∧ a ≤ 39
  case neg =>
    have HM := Lib.hid (show M_PressText (a, b) = ⟨#[]⟩ by unfold M_PressText; rw [if_neg h])
    go_enter Tryd.func9, Tryd.ntmps9
    go_wp2_with (go_at_call 19; refine (l00In_no a 0 39 h _).mono ?_; rintro e w4 ⟨rfl, rfl⟩)
    go_ret
    exact RS1.mk HM.out.symm hB0
  have HM := Lib.hid (show M_PressText (a, b) = pText (a, b) by unfold M_PressText; rw [if_pos h])
  go_enter Tryd.func9, Tryd.ntmps9
  go_wp2_with (first | (go_at_call 19; refine (l00In_yes a 0 39 h _).mono ?_; rintro e w4 ⟨rfl, rfl⟩) | (go_at_call 20; refine (l02PressText_any (a, b) h ha _).mono ?_; rintro e w5 ⟨rfl, hb5⟩))
  go_ret
  exact RS1.mk HM.out.symm (bnext hB0 hb5)
set_option maxHeartbeats 1600000 in
theorem impl_PressText_any (x : TPress) (hx : okPress x) (w : World) (ht : PowTab w) : Calls Tryd.prog 11 #[.agg #[.int .i64 x.1, .bool x.2]] w (RS1 (M_PressText x) w) := by
  obtain ⟨a, b⟩ := x
  have hB0 : Below w.heap.size w (w.alloc (.cells #[.int .i64 a, .bool b] 27)) := bal (Below.refl _ _) _
  have ha : I64 a := by first | exact hx | exact hx.1
  by_cases h : 0 ≤ a ∧ a ≤ 39
  case neg =>
    have HM := Lib.hid (show M_PressText (a, b) = ⟨#[]⟩ by unfold M_PressText; rw [if_neg h])
    go_enter Tryd.func11, Tryd.ntmps11
    go_wp2_with (go_at_call 21; refine (between_no a 0 39 h _).mono ?_; rintro e w4 ⟨rfl, rfl⟩)
    go_ret
    exact RS1.mk HM.out.symm hB0
  have HM := Lib.hid (show M_PressText (a, b) = pText (a, b) by unfold M_PressText; rw [if_pos h])
  have hsz := dstr_small h
  have HC := Lib.hid (fun W (r : PowTab W) => iDecimal_any a ha W r)
  obtain ⟨D, hD⟩ : ∃ D, dstr a = D := ⟨_, rfl⟩
  rw [hD] at hsz HC
  cases b with
  | false =>
    have HE := Lib.hid (show pText (a, false) = D by unfold pText; rw [if_neg (by simp), hD])
    clear hD
    go_enter Tryd.func11, Tryd.ntmps11
    go_wp2_with (first | (go_at_call 21; refine (between_yes a 0 39 h _).mono ?_; rintro e w4 ⟨rfl, rfl⟩) | (go_at_call 8; refine (HC.out _ (powTab_below ht hB0)).mono ?_; rintro e w5 ⟨rfl, hb5⟩))
    go_ret
    exact RS1.mk (HM.out.trans HE.out).symm (bnext hB0 hb5)
  | true =>
    have HE := Lib.hid (show pText (a, true) = hatB ++ D by unfold pText; rw [if_pos rfl, hD])
    clear hD
    go_enter Tryd.func11, Tryd.ntmps11
    go_wp2_with (first | (go_at_call 21; refine (between_yes a 0 39 h _).mono ?_; rintro e w4 ⟨rfl, rfl⟩) | (go_at_call 8; refine (HC.out _ (powTab_below ht hB0)).mono ?_; rintro e w5 ⟨rfl, hb5⟩))
    go_ret
    exact RS1.mk (HM.out.trans HE.out).symm (bnext hB0 hb5)
set_option maxHeartbeats 3200000 in
set_option maxRecDepth 10000 in
theorem spec_ReadPress_any (s : ByteArray) (hs : s.size ≤ 1048576) (w : World) : Calls Tryd.prog 14 #[.string s] w (RPB2 (M_ReadPress s) w) := by
  by_cases h0 : s.size = 0
  · obtain ⟨he, he2⟩ := str_empty h0
    have hsh : shiftB s = false := by unfold shiftB; rw [dif_neg (by omega)]
    obtain ⟨t, hst⟩ : ∃ t, t = s := ⟨_, rfl⟩
    have hrest : restB s = t := by unfold restB; rw [hsh, hst]; rfl
    subst hst
    have hN : M_ReadPress t = rpOf (M_Num t) false := by unfold M_ReadPress; rw [hsh, hrest]
    have ht2 : t.size ≤ 1048576 := by omega
    have HN := Lib.hid (fun W => l01Number_any t ht2 W)
    obtain ⟨m, hm⟩ : ∃ m, M_Num t = m := ⟨_, rfl⟩
    rw [hm] at HN hN
    obtain ⟨n, ok⟩ := m
    have r0 : At2 ((w.alloc (.cells #[.int .i64 0, .bool false] 27)).alloc (.cells #[.int .i64 0, .bool false] 27)) w.heap.size 27 (.int .i64 0) (.bool false) := (At2.new w _ _ _).alloc _
    have p0 : At2 ((w.alloc (.cells #[.int .i64 0, .bool false] 27)).alloc (.cells #[.int .i64 0, .bool false] 27)) (w.heap.size + 1) 27 (.int .i64 0) (.bool false) := by have := At2.new (w.alloc (.cells #[.int .i64 0, .bool false] 27)) 27 (.int .i64 0) (.bool false); rw [World.size_alloc] at this; exact this
    have hB0 : Below w.heap.size w ((w.alloc (.cells #[.int .i64 0, .bool false] 27)).alloc (.cells #[.int .i64 0, .bool false] 27)) := bal (bal (Below.refl _ _) _) _
    have H0 := Lib.hid (And.intro r0 (And.intro p0 hB0))
    clear r0 p0 hB0 hm
    cases ok with
    | false =>
      have HM := Lib.hid (show M_ReadPress t = ((0, false), false) by rw [hN]; unfold rpOf; rw [if_neg (fun hh => by simp at hh)])
      clear hN hsh hrest
      go_enter Tryd.func14, Tryd.ntmps14
      go_wp2_with (first | (go_at_call 22; refine (HN.out _).mono ?_; rintro e w5 ⟨rfl, hb5⟩; have r1 := H0.out.1.below hb5; have p1 := H0.out.2.1.below hb5; have x0 := r1.cell0; have x1 := r1.cell1; have y0 := p1.cell0; have y1 := p1.cell1; have f0 := r1.frozen 0; have f1 := r1.frozen 1; have g0 := p1.frozen 0; have g1 := p1.frozen 1; have HB5 := Lib.hid (bnext H0.out.2.2 hb5); clear hb5 r1 p1))
      exact bodyPost_ret (v := .tuple #[.agg #[.int .i64 0, .bool false], .bool false]) (by simp [results, Tryd.results14, go_sem, x0, x1]) rfl ⟨(0, false), false, rfl, HM.out.symm, bst (bst HB5.out (p := ⟨w.heap.size, 0, none⟩) (Nat.le_refl _) _) (p := ⟨w.heap.size, 1, none⟩) (Nat.le_refl _) _⟩
    | true =>
      by_cases hr : 0 ≤ n ∧ n ≤ 39
      · have HM := Lib.hid (show M_ReadPress t = ((n, false), true) by rw [hN]; unfold rpOf; rw [if_pos ⟨rfl, hr⟩])
        clear hN hsh hrest
        go_enter Tryd.func14, Tryd.ntmps14
        go_wp2_with (first | (go_at_call 22; refine (HN.out _).mono ?_; rintro e w5 ⟨rfl, hb5⟩; have r1 := H0.out.1.below hb5; have p1 := H0.out.2.1.below hb5; have x0 := r1.cell0; have x1 := r1.cell1; have y0 := p1.cell0; have y1 := p1.cell1; have f0 := r1.frozen 0; have f1 := r1.frozen 1; have g0 := p1.frozen 0; have g1 := p1.frozen 1; have HB5 := Lib.hid (bnext H0.out.2.2 hb5); clear hb5 r1 p1) | (go_at_call 19; refine (l00In_yes n 0 39 hr _).mono ?_; rintro e w6 ⟨rfl, rfl⟩))
        exact bodyPost_ret (v := .tuple #[.agg #[.int .i64 n, .bool false], .bool true]) (by simp [results, Tryd.results14, go_sem, x0, x1]) rfl ⟨(n, false), true, rfl, HM.out.symm, bst (bst (bst HB5.out (p := ⟨w.heap.size + 1, 0, none⟩) (Nat.le_succ _) _) (p := ⟨w.heap.size, 0, none⟩) (Nat.le_refl _) _) (p := ⟨w.heap.size, 1, none⟩) (Nat.le_refl _) _⟩
      · have HM := Lib.hid (show M_ReadPress t = ((0, false), false) by rw [hN]; unfold rpOf; rw [if_neg (fun hh => hr hh.2)])
        clear hN hsh hrest
        go_enter Tryd.func14, Tryd.ntmps14
        go_wp2_with (first | (go_at_call 22; refine (HN.out _).mono ?_; rintro e w5 ⟨rfl, hb5⟩; have r1 := H0.out.1.below hb5; have p1 := H0.out.2.1.below hb5; have x0 := r1.cell0; have x1 := r1.cell1; have y0 := p1.cell0; have y1 := p1.cell1; have f0 := r1.frozen 0; have f1 := r1.frozen 1; have g0 := p1.frozen 0; have g1 := p1.frozen 1; have HB5 := Lib.hid (bnext H0.out.2.2 hb5); clear hb5 r1 p1) | (go_at_call 19; refine (l00In_no n 0 39 hr _).mono ?_; rintro e w6 ⟨rfl, rfl⟩))
        exact bodyPost_ret (v := .tuple #[.agg #[.int .i64 0, .bool false], .bool false]) (by simp [results, Tryd.results14, go_sem, x0, x1]) rfl ⟨(0, false), false, rfl, HM.out.symm, bst (bst HB5.out (p := ⟨w.heap.size, 0, none⟩) (Nat.le_refl _) _) (p := ⟨w.heap.size, 1, none⟩) (Nat.le_refl _) _⟩
  have hp : 0 < s.size := by omega
  obtain ⟨he, he2⟩ := str_some hp
  by_cases h94 : s[0].toNat = 94
  · have t94 : ((s[0].toNat : Int) == 94) = true := by rw [beq_iff_eq]; omega
    have hsh : shiftB s = true := by unfold shiftB; rw [dif_pos hp]; exact decide_eq_true h94
    obtain ⟨t, hst⟩ : ∃ t, s.extract 1 s.size = t := ⟨_, rfl⟩
    have hrest : restB s = t := by unfold restB; rw [hsh, ← hst]; rfl
    have hts : t.size + 1 = s.size := by rw [← hst, ByteArray.size_extract]; omega
    have hN : M_ReadPress s = rpOf (M_Num t) true := by unfold M_ReadPress; rw [hsh, hrest]
    have ht2 : t.size ≤ 1048576 := by omega
    have HN := Lib.hid (fun W => l01Number_any t ht2 W)
    obtain ⟨m, hm⟩ : ∃ m, M_Num t = m := ⟨_, rfl⟩
    rw [hm] at HN hN
    obtain ⟨n, ok⟩ := m
    have r0 : At2 ((w.alloc (.cells #[.int .i64 0, .bool false] 27)).alloc (.cells #[.int .i64 0, .bool true] 27)) w.heap.size 27 (.int .i64 0) (.bool false) := (At2.new w _ _ _).alloc _
    have p0 : At2 ((w.alloc (.cells #[.int .i64 0, .bool false] 27)).alloc (.cells #[.int .i64 0, .bool true] 27)) (w.heap.size + 1) 27 (.int .i64 0) (.bool true) := by have := At2.new (w.alloc (.cells #[.int .i64 0, .bool false] 27)) 27 (.int .i64 0) (.bool true); rw [World.size_alloc] at this; exact this
    have hB0 : Below w.heap.size w ((w.alloc (.cells #[.int .i64 0, .bool false] 27)).alloc (.cells #[.int .i64 0, .bool true] 27)) := bal (bal (Below.refl _ _) _) _
    have H0 := Lib.hid (And.intro r0 (And.intro p0 hB0))
    clear r0 p0 hB0 hm
    cases ok with
    | false =>
      have HM := Lib.hid (show M_ReadPress s = ((0, false), false) by rw [hN]; unfold rpOf; rw [if_neg (fun hh => by simp at hh)])
      clear hN hsh hrest
      go_enter Tryd.func14, Tryd.ntmps14
      go_wp2_with (first | (go_at_call 22; refine (HN.out _).mono ?_; rintro e w5 ⟨rfl, hb5⟩; have r1 := H0.out.1.below hb5; have p1 := H0.out.2.1.below hb5; have x0 := r1.cell0; have x1 := r1.cell1; have y0 := p1.cell0; have y1 := p1.cell1; have f0 := r1.frozen 0; have f1 := r1.frozen 1; have g0 := p1.frozen 0; have g1 := p1.frozen 1; have HB5 := Lib.hid (bnext H0.out.2.2 hb5); clear hb5 r1 p1))
      exact bodyPost_ret (v := .tuple #[.agg #[.int .i64 0, .bool false], .bool false]) (by simp [results, Tryd.results14, go_sem, x0, x1]) rfl ⟨(0, false), false, rfl, HM.out.symm, bst (bst HB5.out (p := ⟨w.heap.size, 0, none⟩) (Nat.le_refl _) _) (p := ⟨w.heap.size, 1, none⟩) (Nat.le_refl _) _⟩
    | true =>
      by_cases hr : 0 ≤ n ∧ n ≤ 39
      · have HM := Lib.hid (show M_ReadPress s = ((n, true), true) by rw [hN]; unfold rpOf; rw [if_pos ⟨rfl, hr⟩])
        clear hN hsh hrest
        go_enter Tryd.func14, Tryd.ntmps14
        go_wp2_with (first | (go_at_call 22; refine (HN.out _).mono ?_; rintro e w5 ⟨rfl, hb5⟩; have r1 := H0.out.1.below hb5; have p1 := H0.out.2.1.below hb5; have x0 := r1.cell0; have x1 := r1.cell1; have y0 := p1.cell0; have y1 := p1.cell1; have f0 := r1.frozen 0; have f1 := r1.frozen 1; have g0 := p1.frozen 0; have g1 := p1.frozen 1; have HB5 := Lib.hid (bnext H0.out.2.2 hb5); clear hb5 r1 p1) | (go_at_call 19; refine (l00In_yes n 0 39 hr _).mono ?_; rintro e w6 ⟨rfl, rfl⟩))
        exact bodyPost_ret (v := .tuple #[.agg #[.int .i64 n, .bool true], .bool true]) (by simp [results, Tryd.results14, go_sem, x0, x1]) rfl ⟨(n, true), true, rfl, HM.out.symm, bst (bst (bst HB5.out (p := ⟨w.heap.size + 1, 0, none⟩) (Nat.le_succ _) _) (p := ⟨w.heap.size, 0, none⟩) (Nat.le_refl _) _) (p := ⟨w.heap.size, 1, none⟩) (Nat.le_refl _) _⟩
      · have HM := Lib.hid (show M_ReadPress s = ((0, false), false) by rw [hN]; unfold rpOf; rw [if_neg (fun hh => hr hh.2)])
        clear hN hsh hrest
        go_enter Tryd.func14, Tryd.ntmps14
        go_wp2_with (first | (go_at_call 22; refine (HN.out _).mono ?_; rintro e w5 ⟨rfl, hb5⟩; have r1 := H0.out.1.below hb5; have p1 := H0.out.2.1.below hb5; have x0 := r1.cell0; have x1 := r1.cell1; have y0 := p1.cell0; have y1 := p1.cell1; have f0 := r1.frozen 0; have f1 := r1.frozen 1; have g0 := p1.frozen 0; have g1 := p1.frozen 1; have HB5 := Lib.hid (bnext H0.out.2.2 hb5); clear hb5 r1 p1) | (go_at_call 19; refine (l00In_no n 0 39 hr _).mono ?_; rintro e w6 ⟨rfl, rfl⟩))
        exact bodyPost_ret (v := .tuple #[.agg #[.int .i64 0, .bool false], .bool false]) (by simp [results, Tryd.results14, go_sem, x0, x1]) rfl ⟨(0, false), false, rfl, HM.out.symm, bst (bst HB5.out (p := ⟨w.heap.size, 0, none⟩) (Nat.le_refl _) _) (p := ⟨w.heap.size, 1, none⟩) (Nat.le_refl _) _⟩
  · have t94 : ((s[0].toNat : Int) == 94) = false := by rw [beq_eq_false_iff_ne]; omega
    have hsh : shiftB s = false := by unfold shiftB; rw [dif_pos hp]; exact decide_eq_false h94
    obtain ⟨t, hst⟩ : ∃ t, t = s := ⟨_, rfl⟩
    have hrest : restB s = t := by unfold restB; rw [hsh, hst]; rfl
    subst hst
    have hN : M_ReadPress t = rpOf (M_Num t) false := by unfold M_ReadPress; rw [hsh, hrest]
    have ht2 : t.size ≤ 1048576 := by omega
    have HN := Lib.hid (fun W => l01Number_any t ht2 W)
    obtain ⟨m, hm⟩ : ∃ m, M_Num t = m := ⟨_, rfl⟩
    rw [hm] at HN hN
    obtain ⟨n, ok⟩ := m
    have r0 : At2 ((w.alloc (.cells #[.int .i64 0, .bool false] 27)).alloc (.cells #[.int .i64 0, .bool false] 27)) w.heap.size 27 (.int .i64 0) (.bool false) := (At2.new w _ _ _).alloc _
    have p0 : At2 ((w.alloc (.cells #[.int .i64 0, .bool false] 27)).alloc (.cells #[.int .i64 0, .bool false] 27)) (w.heap.size + 1) 27 (.int .i64 0) (.bool false) := by have := At2.new (w.alloc (.cells #[.int .i64 0, .bool false] 27)) 27 (.int .i64 0) (.bool false); rw [World.size_alloc] at this; exact this
    have hB0 : Below w.heap.size w ((w.alloc (.cells #[.int .i64 0, .bool false] 27)).alloc (.cells #[.int .i64 0, .bool false] 27)) := bal (bal (Below.refl _ _) _) _
    have H0 := Lib.hid (And.intro r0 (And.intro p0 hB0))
    clear r0 p0 hB0 hm
    cases ok with
    | false =>
      have HM := Lib.hid (show M_ReadPress t = ((0, false), false) by rw [hN]; unfold rpOf; rw [if_neg (fun hh => by simp at hh)])
      clear hN hsh hrest
      go_enter Tryd.func14, Tryd.ntmps14
      go_wp2_with (first | (go_at_call 22; refine (HN.out _).mono ?_; rintro e w5 ⟨rfl, hb5⟩; have r1 := H0.out.1.below hb5; have p1 := H0.out.2.1.below hb5; have x0 := r1.cell0; have x1 := r1.cell1; have y0 := p1.cell0; have y1 := p1.cell1; have f0 := r1.frozen 0; have f1 := r1.frozen 1; have g0 := p1.frozen 0; have g1 := p1.frozen 1; have HB5 := Lib.hid (bnext H0.out.2.2 hb5); clear hb5 r1 p1))
      exact bodyPost_ret (v := .tuple #[.agg #[.int .i64 0, .bool false], .bool false]) (by simp [results, Tryd.results14, go_sem, x0, x1]) rfl ⟨(0, false), false, rfl, HM.out.symm, bst (bst HB5.out (p := ⟨w.heap.size, 0, none⟩) (Nat.le_refl _) _) (p := ⟨w.heap.size, 1, none⟩) (Nat.le_refl _) _⟩
    | true =>
      by_cases hr : 0 ≤ n ∧ n ≤ 39
      · have HM := Lib.hid (show M_ReadPress t = ((n, false), true) by rw [hN]; unfold rpOf; rw [if_pos ⟨rfl, hr⟩])
        clear hN hsh hrest
        go_enter Tryd.func14, Tryd.ntmps14
        go_wp2_with (first | (go_at_call 22; refine (HN.out _).mono ?_; rintro e w5 ⟨rfl, hb5⟩; have r1 := H0.out.1.below hb5; have p1 := H0.out.2.1.below hb5; have x0 := r1.cell0; have x1 := r1.cell1; have y0 := p1.cell0; have y1 := p1.cell1; have f0 := r1.frozen 0; have f1 := r1.frozen 1; have g0 := p1.frozen 0; have g1 := p1.frozen 1; have HB5 := Lib.hid (bnext H0.out.2.2 hb5); clear hb5 r1 p1) | (go_at_call 19; refine (l00In_yes n 0 39 hr _).mono ?_; rintro e w6 ⟨rfl, rfl⟩))
        exact bodyPost_ret (v := .tuple #[.agg #[.int .i64 n, .bool false], .bool true]) (by simp [results, Tryd.results14, go_sem, x0, x1]) rfl ⟨(n, false), true, rfl, HM.out.symm, bst (bst (bst HB5.out (p := ⟨w.heap.size + 1, 0, none⟩) (Nat.le_succ _) _) (p := ⟨w.heap.size, 0, none⟩) (Nat.le_refl _) _) (p := ⟨w.heap.size, 1, none⟩) (Nat.le_refl _) _⟩
      · have HM := Lib.hid (show M_ReadPress t = ((0, false), false) by rw [hN]; unfold rpOf; rw [if_neg (fun hh => hr hh.2)])
        clear hN hsh hrest
        go_enter Tryd.func14, Tryd.ntmps14
        go_wp2_with (first | (go_at_call 22; refine (HN.out _).mono ?_; rintro e w5 ⟨rfl, hb5⟩; have r1 := H0.out.1.below hb5; have p1 := H0.out.2.1.below hb5; have x0 := r1.cell0; have x1 := r1.cell1; have y0 := p1.cell0; have y1 := p1.cell1; have f0 := r1.frozen 0; have f1 := r1.frozen 1; have g0 := p1.frozen 0; have g1 := p1.frozen 1; have HB5 := Lib.hid (bnext H0.out.2.2 hb5); clear hb5 r1 p1) | (go_at_call 19; refine (l00In_no n 0 39 hr _).mono ?_; rintro e w6 ⟨rfl, rfl⟩))
        exact bodyPost_ret (v := .tuple #[.agg #[.int .i64 0, .bool false], .bool false]) (by simp [results, Tryd.results14, go_sem, x0, x1]) rfl ⟨(0, false), false, rfl, HM.out.symm, bst (bst HB5.out (p := ⟨w.heap.size, 0, none⟩) (Nat.le_refl _) _) (p := ⟨w.heap.size, 1, none⟩) (Nat.le_refl _) _⟩
set_option maxHeartbeats 3200000 in
set_option maxRecDepth 10000 in
theorem impl_ReadPress_any (s : ByteArray) (hs : s.size ≤ 1048576) (w : World) (ht : PowTab w) : Calls Tryd.prog 15 #[.string s] w (RPB2 (M_ReadPress s) w) := by
  by_cases h0 : s.size = 0
  · obtain ⟨he, he2⟩ := str_empty h0
    have hsh : shiftB s = false := by unfold shiftB; rw [dif_neg (by omega)]
    obtain ⟨t, hst⟩ : ∃ t, t = s := ⟨_, rfl⟩
    have hrest : restB s = t := by unfold restB; rw [hsh, hst]; rfl
    subst hst
    have hN : M_ReadPress t = rpOf (M_Num t) false := by unfold M_ReadPress; rw [hsh, hrest]
    have ht2 : t.size ≤ 1048576 := by omega
    have HN := Lib.hid (fun W (r : PowTab W) => iRead_any t ht2 W r)
    obtain ⟨m, hm⟩ : ∃ m, M_Num t = m := ⟨_, rfl⟩
    rw [hm] at HN hN
    obtain ⟨n, ok⟩ := m
    have r0 : At2 ((w.alloc (.cells #[.int .i64 0, .bool false] 27)).alloc (.cells #[.int .i64 0, .bool false] 27)) w.heap.size 27 (.int .i64 0) (.bool false) := (At2.new w _ _ _).alloc _
    have p0 : At2 ((w.alloc (.cells #[.int .i64 0, .bool false] 27)).alloc (.cells #[.int .i64 0, .bool false] 27)) (w.heap.size + 1) 27 (.int .i64 0) (.bool false) := by have := At2.new (w.alloc (.cells #[.int .i64 0, .bool false] 27)) 27 (.int .i64 0) (.bool false); rw [World.size_alloc] at this; exact this
    have hB0 : Below w.heap.size w ((w.alloc (.cells #[.int .i64 0, .bool false] 27)).alloc (.cells #[.int .i64 0, .bool false] 27)) := bal (bal (Below.refl _ _) _) _
    have H0 := Lib.hid (And.intro r0 (And.intro p0 hB0))
    have hT0 := Lib.hid (powTab_below ht hB0)
    clear r0 p0 hB0 hm
    cases ok with
    | false =>
      have HM := Lib.hid (show M_ReadPress t = ((0, false), false) by rw [hN]; unfold rpOf; rw [if_neg (fun hh => by simp at hh)])
      clear hN hsh hrest
      go_enter Tryd.func15, Tryd.ntmps15
      go_wp2_with (first | (go_at_call 13; refine (HN.out _ hT0.out).mono ?_; rintro e w5 ⟨rfl, hb5⟩; have r1 := H0.out.1.below hb5; have p1 := H0.out.2.1.below hb5; have x0 := r1.cell0; have x1 := r1.cell1; have y0 := p1.cell0; have y1 := p1.cell1; have f0 := r1.frozen 0; have f1 := r1.frozen 1; have g0 := p1.frozen 0; have g1 := p1.frozen 1; have HB5 := Lib.hid (bnext H0.out.2.2 hb5); clear hb5 r1 p1))
      exact bodyPost_ret (v := .tuple #[.agg #[.int .i64 0, .bool false], .bool false]) (by simp [results, Tryd.results15, go_sem, x0, x1]) rfl ⟨(0, false), false, rfl, HM.out.symm, bst (bst HB5.out (p := ⟨w.heap.size, 0, none⟩) (Nat.le_refl _) _) (p := ⟨w.heap.size, 1, none⟩) (Nat.le_refl _) _⟩
    | true =>
      by_cases hr : 0 ≤ n ∧ n ≤ 39
      · have HM := Lib.hid (show M_ReadPress t = ((n, false), true) by rw [hN]; unfold rpOf; rw [if_pos ⟨rfl, hr⟩])
        clear hN hsh hrest
        go_enter Tryd.func15, Tryd.ntmps15
        go_wp2_with (first | (go_at_call 13; refine (HN.out _ hT0.out).mono ?_; rintro e w5 ⟨rfl, hb5⟩; have r1 := H0.out.1.below hb5; have p1 := H0.out.2.1.below hb5; have x0 := r1.cell0; have x1 := r1.cell1; have y0 := p1.cell0; have y1 := p1.cell1; have f0 := r1.frozen 0; have f1 := r1.frozen 1; have g0 := p1.frozen 0; have g1 := p1.frozen 1; have HB5 := Lib.hid (bnext H0.out.2.2 hb5); clear hb5 r1 p1) | (go_at_call 21; refine (between_yes n 0 39 hr _).mono ?_; rintro e w6 ⟨rfl, rfl⟩))
        exact bodyPost_ret (v := .tuple #[.agg #[.int .i64 n, .bool false], .bool true]) (by simp [results, Tryd.results15, go_sem, x0, x1]) rfl ⟨(n, false), true, rfl, HM.out.symm, bst (bst (bst HB5.out (p := ⟨w.heap.size + 1, 0, none⟩) (Nat.le_succ _) _) (p := ⟨w.heap.size, 0, none⟩) (Nat.le_refl _) _) (p := ⟨w.heap.size, 1, none⟩) (Nat.le_refl _) _⟩
      · have HM := Lib.hid (show M_ReadPress t = ((0, false), false) by rw [hN]; unfold rpOf; rw [if_neg (fun hh => hr hh.2)])
        clear hN hsh hrest
        go_enter Tryd.func15, Tryd.ntmps15
        go_wp2_with (first | (go_at_call 13; refine (HN.out _ hT0.out).mono ?_; rintro e w5 ⟨rfl, hb5⟩; have r1 := H0.out.1.below hb5; have p1 := H0.out.2.1.below hb5; have x0 := r1.cell0; have x1 := r1.cell1; have y0 := p1.cell0; have y1 := p1.cell1; have f0 := r1.frozen 0; have f1 := r1.frozen 1; have g0 := p1.frozen 0; have g1 := p1.frozen 1; have HB5 := Lib.hid (bnext H0.out.2.2 hb5); clear hb5 r1 p1) | (go_at_call 21; refine (between_no n 0 39 hr _).mono ?_; rintro e w6 ⟨rfl, rfl⟩))
        exact bodyPost_ret (v := .tuple #[.agg #[.int .i64 0, .bool false], .bool false]) (by simp [results, Tryd.results15, go_sem, x0, x1]) rfl ⟨(0, false), false, rfl, HM.out.symm, bst (bst HB5.out (p := ⟨w.heap.size, 0, none⟩) (Nat.le_refl _) _) (p := ⟨w.heap.size, 1, none⟩) (Nat.le_refl _) _⟩
  have hp : 0 < s.size := by omega
  obtain ⟨he, he2⟩ := str_some hp
  by_cases h94 : s[0].toNat = 94
  · have t94 : ((s[0].toNat : Int) == 94) = true := by rw [beq_iff_eq]; omega
    have hsh : shiftB s = true := by unfold shiftB; rw [dif_pos hp]; exact decide_eq_true h94
    obtain ⟨t, hst⟩ : ∃ t, s.extract 1 s.size = t := ⟨_, rfl⟩
    have hrest : restB s = t := by unfold restB; rw [hsh, ← hst]; rfl
    have hts : t.size + 1 = s.size := by rw [← hst, ByteArray.size_extract]; omega
    have hN : M_ReadPress s = rpOf (M_Num t) true := by unfold M_ReadPress; rw [hsh, hrest]
    have ht2 : t.size ≤ 1048576 := by omega
    have HN := Lib.hid (fun W (r : PowTab W) => iRead_any t ht2 W r)
    obtain ⟨m, hm⟩ : ∃ m, M_Num t = m := ⟨_, rfl⟩
    rw [hm] at HN hN
    obtain ⟨n, ok⟩ := m
    have r0 : At2 ((w.alloc (.cells #[.int .i64 0, .bool false] 27)).alloc (.cells #[.int .i64 0, .bool true] 27)) w.heap.size 27 (.int .i64 0) (.bool false) := (At2.new w _ _ _).alloc _
    have p0 : At2 ((w.alloc (.cells #[.int .i64 0, .bool false] 27)).alloc (.cells #[.int .i64 0, .bool true] 27)) (w.heap.size + 1) 27 (.int .i64 0) (.bool true) := by have := At2.new (w.alloc (.cells #[.int .i64 0, .bool false] 27)) 27 (.int .i64 0) (.bool true); rw [World.size_alloc] at this; exact this
    have hB0 : Below w.heap.size w ((w.alloc (.cells #[.int .i64 0, .bool false] 27)).alloc (.cells #[.int .i64 0, .bool true] 27)) := bal (bal (Below.refl _ _) _) _
    have H0 := Lib.hid (And.intro r0 (And.intro p0 hB0))
    have hT0 := Lib.hid (powTab_below ht hB0)
    clear r0 p0 hB0 hm
    cases ok with
    | false =>
      have HM := Lib.hid (show M_ReadPress s = ((0, false), false) by rw [hN]; unfold rpOf; rw [if_neg (fun hh => by simp at hh)])
      clear hN hsh hrest
      go_enter Tryd.func15, Tryd.ntmps15
      go_wp2_with (first | (go_at_call 13; refine (HN.out _ hT0.out).mono ?_; rintro e w5 ⟨rfl, hb5⟩; have r1 := H0.out.1.below hb5; have p1 := H0.out.2.1.below hb5; have x0 := r1.cell0; have x1 := r1.cell1; have y0 := p1.cell0; have y1 := p1.cell1; have f0 := r1.frozen 0; have f1 := r1.frozen 1; have g0 := p1.frozen 0; have g1 := p1.frozen 1; have HB5 := Lib.hid (bnext H0.out.2.2 hb5); clear hb5 r1 p1))
      exact bodyPost_ret (v := .tuple #[.agg #[.int .i64 0, .bool false], .bool false]) (by simp [results, Tryd.results15, go_sem, x0, x1]) rfl ⟨(0, false), false, rfl, HM.out.symm, bst (bst HB5.out (p := ⟨w.heap.size, 0, none⟩) (Nat.le_refl _) _) (p := ⟨w.heap.size, 1, none⟩) (Nat.le_refl _) _⟩
    | true =>
      by_cases hr : 0 ≤ n ∧ n ≤ 39
      · have HM := Lib.hid (show M_ReadPress s = ((n, true), true) by rw [hN]; unfold rpOf; rw [if_pos ⟨rfl, hr⟩])
        clear hN hsh hrest
        go_enter Tryd.func15, Tryd.ntmps15
        go_wp2_with (first | (go_at_call 13; refine (HN.out _ hT0.out).mono ?_; rintro e w5 ⟨rfl, hb5⟩; have r1 := H0.out.1.below hb5; have p1 := H0.out.2.1.below hb5; have x0 := r1.cell0; have x1 := r1.cell1; have y0 := p1.cell0; have y1 := p1.cell1; have f0 := r1.frozen 0; have f1 := r1.frozen 1; have g0 := p1.frozen 0; have g1 := p1.frozen 1; have HB5 := Lib.hid (bnext H0.out.2.2 hb5); clear hb5 r1 p1) | (go_at_call 21; refine (between_yes n 0 39 hr _).mono ?_; rintro e w6 ⟨rfl, rfl⟩))
        exact bodyPost_ret (v := .tuple #[.agg #[.int .i64 n, .bool true], .bool true]) (by simp [results, Tryd.results15, go_sem, x0, x1]) rfl ⟨(n, true), true, rfl, HM.out.symm, bst (bst (bst HB5.out (p := ⟨w.heap.size + 1, 0, none⟩) (Nat.le_succ _) _) (p := ⟨w.heap.size, 0, none⟩) (Nat.le_refl _) _) (p := ⟨w.heap.size, 1, none⟩) (Nat.le_refl _) _⟩
      · have HM := Lib.hid (show M_ReadPress s = ((0, false), false) by rw [hN]; unfold rpOf; rw [if_neg (fun hh => hr hh.2)])
        clear hN hsh hrest
        go_enter Tryd.func15, Tryd.ntmps15
        go_wp2_with (first | (go_at_call 13; refine (HN.out _ hT0.out).mono ?_; rintro e w5 ⟨rfl, hb5⟩; have r1 := H0.out.1.below hb5; have p1 := H0.out.2.1.below hb5; have x0 := r1.cell0; have x1 := r1.cell1; have y0 := p1.cell0; have y1 := p1.cell1; have f0 := r1.frozen 0; have f1 := r1.frozen 1; have g0 := p1.frozen 0; have g1 := p1.frozen 1; have HB5 := Lib.hid (bnext H0.out.2.2 hb5); clear hb5 r1 p1) | (go_at_call 21; refine (between_no n 0 39 hr _).mono ?_; rintro e w6 ⟨rfl, rfl⟩))
        exact bodyPost_ret (v := .tuple #[.agg #[.int .i64 0, .bool false], .bool false]) (by simp [results, Tryd.results15, go_sem, x0, x1]) rfl ⟨(0, false), false, rfl, HM.out.symm, bst (bst HB5.out (p := ⟨w.heap.size, 0, none⟩) (Nat.le_refl _) _) (p := ⟨w.heap.size, 1, none⟩) (Nat.le_refl _) _⟩
  · have t94 : ((s[0].toNat : Int) == 94) = false := by rw [beq_eq_false_iff_ne]; omega
    have hsh : shiftB s = false := by unfold shiftB; rw [dif_pos hp]; exact decide_eq_false h94
    obtain ⟨t, hst⟩ : ∃ t, t = s := ⟨_, rfl⟩
    have hrest : restB s = t := by unfold restB; rw [hsh, hst]; rfl
    subst hst
    have hN : M_ReadPress t = rpOf (M_Num t) false := by unfold M_ReadPress; rw [hsh, hrest]
    have ht2 : t.size ≤ 1048576 := by omega
    have HN := Lib.hid (fun W (r : PowTab W) => iRead_any t ht2 W r)
    obtain ⟨m, hm⟩ : ∃ m, M_Num t = m := ⟨_, rfl⟩
    rw [hm] at HN hN
    obtain ⟨n, ok⟩ := m
    have r0 : At2 ((w.alloc (.cells #[.int .i64 0, .bool false] 27)).alloc (.cells #[.int .i64 0, .bool false] 27)) w.heap.size 27 (.int .i64 0) (.bool false) := (At2.new w _ _ _).alloc _
    have p0 : At2 ((w.alloc (.cells #[.int .i64 0, .bool false] 27)).alloc (.cells #[.int .i64 0, .bool false] 27)) (w.heap.size + 1) 27 (.int .i64 0) (.bool false) := by have := At2.new (w.alloc (.cells #[.int .i64 0, .bool false] 27)) 27 (.int .i64 0) (.bool false); rw [World.size_alloc] at this; exact this
    have hB0 : Below w.heap.size w ((w.alloc (.cells #[.int .i64 0, .bool false] 27)).alloc (.cells #[.int .i64 0, .bool false] 27)) := bal (bal (Below.refl _ _) _) _
    have H0 := Lib.hid (And.intro r0 (And.intro p0 hB0))
    have hT0 := Lib.hid (powTab_below ht hB0)
    clear r0 p0 hB0 hm
    cases ok with
    | false =>
      have HM := Lib.hid (show M_ReadPress t = ((0, false), false) by rw [hN]; unfold rpOf; rw [if_neg (fun hh => by simp at hh)])
      clear hN hsh hrest
      go_enter Tryd.func15, Tryd.ntmps15
      go_wp2_with (first | (go_at_call 13; refine (HN.out _ hT0.out).mono ?_; rintro e w5 ⟨rfl, hb5⟩; have r1 := H0.out.1.below hb5; have p1 := H0.out.2.1.below hb5; have x0 := r1.cell0; have x1 := r1.cell1; have y0 := p1.cell0; have y1 := p1.cell1; have f0 := r1.frozen 0; have f1 := r1.frozen 1; have g0 := p1.frozen 0; have g1 := p1.frozen 1; have HB5 := Lib.hid (bnext H0.out.2.2 hb5); clear hb5 r1 p1))
      exact bodyPost_ret (v := .tuple #[.agg #[.int .i64 0, .bool false], .bool false]) (by simp [results, Tryd.results15, go_sem, x0, x1]) rfl ⟨(0, false), false, rfl, HM.out.symm, bst (bst HB5.out (p := ⟨w.heap.size, 0, none⟩) (Nat.le_refl _) _) (p := ⟨w.heap.size, 1, none⟩) (Nat.le_refl _) _⟩
    | true =>
      by_cases hr : 0 ≤ n ∧ n ≤ 39
      · have HM := Lib.hid (show M_ReadPress t = ((n, false), true) by rw [hN]; unfold rpOf; rw [if_pos ⟨rfl, hr⟩])
        clear hN hsh hrest
        go_enter Tryd.func15, Tryd.ntmps15
        go_wp2_with (first | (go_at_call 13; refine (HN.out _ hT0.out).mono ?_; rintro e w5 ⟨rfl, hb5⟩; have r1 := H0.out.1.below hb5; have p1 := H0.out.2.1.below hb5; have x0 := r1.cell0; have x1 := r1.cell1; have y0 := p1.cell0; have y1 := p1.cell1; have f0 := r1.frozen 0; have f1 := r1.frozen 1; have g0 := p1.frozen 0; have g1 := p1.frozen 1; have HB5 := Lib.hid (bnext H0.out.2.2 hb5); clear hb5 r1 p1) | (go_at_call 21; refine (between_yes n 0 39 hr _).mono ?_; rintro e w6 ⟨rfl, rfl⟩))
        exact bodyPost_ret (v := .tuple #[.agg #[.int .i64 n, .bool false], .bool true]) (by simp [results, Tryd.results15, go_sem, x0, x1]) rfl ⟨(n, false), true, rfl, HM.out.symm, bst (bst (bst HB5.out (p := ⟨w.heap.size + 1, 0, none⟩) (Nat.le_succ _) _) (p := ⟨w.heap.size, 0, none⟩) (Nat.le_refl _) _) (p := ⟨w.heap.size, 1, none⟩) (Nat.le_refl _) _⟩
      · have HM := Lib.hid (show M_ReadPress t = ((0, false), false) by rw [hN]; unfold rpOf; rw [if_neg (fun hh => hr hh.2)])
        clear hN hsh hrest
        go_enter Tryd.func15, Tryd.ntmps15
        go_wp2_with (first | (go_at_call 13; refine (HN.out _ hT0.out).mono ?_; rintro e w5 ⟨rfl, hb5⟩; have r1 := H0.out.1.below hb5; have p1 := H0.out.2.1.below hb5; have x0 := r1.cell0; have x1 := r1.cell1; have y0 := p1.cell0; have y1 := p1.cell1; have f0 := r1.frozen 0; have f1 := r1.frozen 1; have g0 := p1.frozen 0; have g1 := p1.frozen 1; have HB5 := Lib.hid (bnext H0.out.2.2 hb5); clear hb5 r1 p1) | (go_at_call 21; refine (between_no n 0 39 hr _).mono ?_; rintro e w6 ⟨rfl, rfl⟩))
        exact bodyPost_ret (v := .tuple #[.agg #[.int .i64 0, .bool false], .bool false]) (by simp [results, Tryd.results15, go_sem, x0, x1]) rfl ⟨(0, false), false, rfl, HM.out.symm, bst (bst HB5.out (p := ⟨w.heap.size, 0, none⟩) (Nat.le_refl _) _) (p := ⟨w.heap.size, 1, none⟩) (Nat.le_refl _) _⟩
end Go.Proofs.YtlpfhmcjacimlaaDoor
