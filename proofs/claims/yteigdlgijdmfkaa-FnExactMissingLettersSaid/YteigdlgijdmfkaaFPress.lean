/-
  FPress: the press that prints a letter: impl.pressOf, PressFor spec and impl.
-/
import Derived.Test.YteigdlgijdmfkaaFKeysS
import Derived.Test.YteigdlgijdmfkaaFKeysI
import Derived.Test.YteigdlgijdmfkaaTPress
namespace Go.Proofs.Yteigdlgijdmfkaa
open Go.RowKit
set_option linter.unusedVariables false
attribute [local go_sem ↓] Go.wp_at_zero Go.wp_at_succ
set_option linter.unusedSimpArgs false
def RPI (m : TPress × Int) (w : World) (e : Ending) (w' : World) : Prop := ∃ (r0 : TPress) (r1 : Int), e = .returned (.tuple #[.agg #[.int .i64 r0.1, .bool r0.2], .int .i64 r1]) ∧ (r0, r1) = m ∧ Below w.heap.size w w'
noncomputable def M_PressFor (ks : List TKey) (c : ByteArray) : TPress × Int :=
  if KeysOk ks [] then (if LetterOk c then (if HasL ks c then (findL ks c, 0) else ((0, false), 3)) else ((0, false), 2)) else ((0, false), 1)
theorem rowE {α : Type} (w : World) (A : Option Addr) (e : α → List Value) (s : Nat) : Row w A e s ([] : List α) := fun h => absurd rfl h
/-- A press lies in block b. -/
def AtPr (w : World) (b : Nat) (x : TPress) : Prop := b < w.heap.size ∧ (w.cell? ⟨b, 0, none⟩ = some (.int .i64 x.1) ∧ w.cell? ⟨b, 1, none⟩ = some (.bool x.2)) ∧ w.frozen? ⟨b, 0, none⟩ = false ∧ w.frozen? ⟨b, 1, none⟩ = false
theorem AtPr.new (w : World) (t : TypeId) (x : TPress) : AtPr (w.alloc (.cells #[.int .i64 x.1, .bool x.2] t)) w.heap.size x := ⟨by simp, ⟨by simp [go_sem], by simp [go_sem]⟩, by simp [go_sem], by simp [go_sem]⟩
theorem AtPr.next {B : Nat} {w w' : World} {b : Nat} {x : TPress} (h : AtPr w b x) (hb : Below B w w') (hB : b < B) : AtPr w' b x :=
  ⟨Nat.lt_of_lt_of_le h.1 hb.size, ⟨(hb.cell (p := ⟨b, 0, none⟩) hB).trans h.2.1.1, (hb.cell (p := ⟨b, 1, none⟩) hB).trans h.2.1.2⟩, (hb.frozen (p := ⟨b, 0, none⟩) hB).trans h.2.2.1, (hb.frozen (p := ⟨b, 1, none⟩) hB).trans h.2.2.2⟩
noncomputable def M_pressOf (ks : List TKey) (c : ByteArray) : TPress × Bool := if HasL ks c then (findL ks c, true) else ((0, false), false)
def RPB (m : TPress × Bool) (w : World) (e : Ending) (w' : World) : Prop := e = .returned (.tuple #[.agg #[.int .i64 m.1.1, .bool m.1.2], .bool m.2]) ∧ Below w.heap.size w w'
set_option maxHeartbeats 6400000 in
set_option maxRecDepth 10000 in
theorem pressOf_any (A : Option Addr) (c : Nat) (ks : List TKey) (hx : ks.length ≤ 1048576) (hup : KeysUp ks) (ch : ByteArray) (w : World) (rx : Row w A encKey 3 ks) :
    Calls Try.prog 87 #[.slice A ks.length c, .string ch] w (RPB (M_pressOf ks ch) w) := by
  obtain ⟨M, hM⟩ : ∃ M, M = findL ks ch := ⟨_, rfl⟩
  have HM := Lib.hid hM
  clear hM
  have HUp := Lib.hid hup
  clear hup
  obtain ⟨W0, hW0⟩ : ∃ W0, W0 = w.alloc (.cells #[.int .i64 0, .bool false] 78) := ⟨_, rfl⟩
  have hB0 : Below w.heap.size w W0 := by rw [hW0]; exact bal (Below.refl _ _) _
  have k0 : AtPr W0 w.heap.size (0, false) := by rw [hW0]; exact AtPr.new w _ (0, false)
  have HW := Lib.hid hW0
  clear hW0
  go_enter Try.func87, Try.ntmps87
  go_wp2_with fail
  rw [← HW.out]
  go_loopg [10] ks.length (fun g is wr => ∃ k : Nat, k ≤ ks.length ∧ g = ks.length - k ∧ findGo ch (ks.drop k) k = M ∧ (∀ i (h : i < ks.length), i < k → ¬ InK ks[i] ch) ∧ Below W0.heap.size W0 wr ∧ is = .int .i64 k)
  case atStart => exact ⟨0, Nat.zero_le _, rfl, HM.out.symm, fun i h hi => absurd hi (by omega), Below.refl _ _, rfl⟩
  case round =>
    obtain ⟨k, hkk, hg, hgo, hno, hbw, rfl⟩ := hrel
    have HG := Lib.hid hg
    have HNo := Lib.hid hno
    clear hg hno
    have k1 := k0.next hbw k0.1
    have hB1 := bnext hB0 hbw
    by_cases hlt : k < ks.length
    · rw [List.drop_eq_getElem_cons hlt] at hgo
      unfold findGo at hgo
      obtain ⟨b, off, hA, hb, c0, c1, c2⟩ := (rx.below hB1).at3 (f := fun x : TKey => .string x.1) (g := fun x : TKey => .string x.2.1) (i := fun x : TKey => .bool x.2.2) hlt
      subst hA
      have hne : ks[k].1 ≠ ks[k].2.1 := (HUp.out k hlt).2.2.1
      have hmem := List.getElem_mem hlt
      have HIN := Lib.hid (fun (q : InK ks[k] ch) => (⟨_, hmem, q⟩ : HasL ks ch))
      have HNI := Lib.hid (fun (q : ¬ InK ks[k] ch) => (fun i (h : i < ks.length) (hi : i < k + 1) => (Nat.lt_succ_iff_lt_or_eq.1 hi).elim (HNo.out i h) (fun hh => by subst hh; exact q) : ∀ i (h : i < ks.length), i < k + 1 → ¬ InK ks[i] ch))
      obtain ⟨y, hy⟩ : ∃ y, ks[k] = y := ⟨_, rfl⟩
      have hin := HIN.out
      have hni := HNI.out
      rw [hy] at c0 c1 c2 hgo hne hin hni
      have HI := Lib.hid hin
      have HN := Lib.hid hni
      clear hin hni HIN HNI hy hmem
      obtain ⟨p1, p2, p3⟩ := y
      simp only at c0 c1 c2 hgo hne
      have i1 : (0 : Int) ≤ (k : Int) := by omega
      have i2 : (k : Int) < (ks.length : Int) := by omega
      have hbq : Below wr.heap.size wr (wr.alloc (.cells #[.string p1, .string p2, .bool p3] 80)) := bal (Below.refl _ _) _
      have k2 := k1.next hbq k1.1
      have hB2 := bnext hB1 hbq
      obtain ⟨r0, ⟨r1, r2⟩, r3, r4⟩ := k2
      clear k1
      by_cases h1 : p1 = ch
      · have te := seq_true h1
        have te2 : (p2.toList == ch.toList) = false := seq_false (fun q => hne (h1.trans q.symm))
        rw [if_pos h1] at hgo
        have HF := Lib.hid (show M_pressOf ks ch = (((k : Int), false), true) by unfold M_pressOf; rw [if_pos (show HasL ks ch from HI.out (.inl h1)), ← HM.out, hgo])
        clear hgo h1 hne
        go_wp2_with fail
        refine bodyPost_ret (v := .tuple #[.agg #[.int .i64 k, .bool false], .bool true]) (by simp [results, Try.results87, go_sem, r1, r2]) rfl ⟨by rw [HF.out], (hB2.setCell (by show _ ≤ w.heap.size; omega) _).setCell (by show _ ≤ w.heap.size; omega) _⟩
      · have te := seq_false h1
        rw [if_neg h1] at hgo
        by_cases h2 : p2 = ch
        · have te2 := seq_true h2
          rw [if_pos h2] at hgo
          have HF := Lib.hid (show M_pressOf ks ch = (((k : Int), true), true) by unfold M_pressOf; rw [if_pos (show HasL ks ch from HI.out (.inr h2)), ← HM.out, hgo])
          clear hgo h1 h2 hne
          go_wp2_with fail
          refine bodyPost_ret (v := .tuple #[.agg #[.int .i64 k, .bool true], .bool true]) (by simp [results, Try.results87, go_sem, r1, r2]) rfl ⟨by rw [HF.out], (hB2.setCell (by show _ ≤ w.heap.size; omega) _).setCell (by show _ ≤ w.heap.size; omega) _⟩
        · have te2 := seq_false h2
          rw [if_neg h2] at hgo
          have HF := Lib.hid hgo
          have HNN := Lib.hid (HN.out (fun q => q.elim h1 h2))
          clear hgo h1 h2 hne
          go_wp2_with fail
          go_roundg (ks.length - (k + 1))
          case measure => rw [HG.out]; omega
          case rel => exact ⟨k + 1, by omega, rfl, HF.out, HNN.out, hbw.trans (hbq.mono hbw.size), by go_num⟩
    · have HF := Lib.hid (show M_pressOf ks ch = ((0, false), false) by
        unfold M_pressOf
        rw [if_neg]
        rintro ⟨x, hx, hc⟩
        obtain ⟨i, hi, rfl⟩ := List.getElem_of_mem hx
        exact HNo.out i hi (by omega) hc)
      obtain ⟨r0, ⟨r1, r2⟩, r3, r4⟩ := k1
      clear hgo
      go_wp2_with fail
      refine bodyPost_ret (v := .tuple #[.agg #[.int .i64 0, .bool false], .bool false]) (by simp [results, Try.results87, go_sem, r1, r2]) rfl ⟨by rw [HF.out], (hB1.setCell (by show _ ≤ w.heap.size; omega) _).setCell (by show _ ≤ w.heap.size; omega) _⟩
end Go.Proofs.Yteigdlgijdmfkaa
