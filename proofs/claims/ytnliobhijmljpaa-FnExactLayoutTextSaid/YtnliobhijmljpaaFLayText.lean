/-
  FLayText: the text form of a layout: spec.LayoutText, impl.LayoutText.
-/
import Derived.Test.YtnliobhijmljpaaFLayOk
import Derived.Test.YtnliobhijmljpaaShJoin
namespace Go.Proofs.Ytnliobhijmljpaa
open Go.RowKit
set_option linter.unusedVariables false
attribute [local go_sem ↓] Go.wp_at_zero Go.wp_at_succ
theorem own_capL {α : Type} {w : World} {e : α → List Value} {s : Nat} {xs : List α} {A : Option Addr} {base n c : Nat} {E : TypeId} (h : Own w base E e s (.slice A n c) xs) : n ≤ c := by
  rcases h.2.2 with ⟨hv, _⟩ | ⟨g, cap, cs, hv, _, _, hn, _⟩
  · injection hv with h1 h2 h3; omega
  · injection hv with h1 h2 h3; omega
def jGo : List ByteArray → Nat → ByteArray → ByteArray
  | [], _, s => s
  | a :: ls, i, s => jGo ls (i + 1) ((if 0 < i then s ++ ⟨#[47]⟩ else s) ++ a)
theorem j_step (xs : List ByteArray) (i : Nat) (h : i < xs.length) (s : ByteArray) : jGo (xs.drop i) i s = jGo (xs.drop (i + 1)) (i + 1) ((if 0 < i then s ++ ⟨#[47]⟩ else s) ++ xs[i]) := by
  rw [List.drop_eq_getElem_cons h]; rfl
theorem jGo_data : ∀ (ls : List ByteArray) (i : Nat) (s : ByteArray), (jGo ls (i + 1) s).data.toList = s.data.toList ++ Lib.joinTail [47] (ls.map (·.data.toList))
  | [], i, s => by simp [jGo, Lib.joinTail]
  | a :: ls, i, s => by
    unfold jGo
    rw [jGo_data ls (i + 1), if_pos (by omega)]
    simp [Lib.joinTail]
theorem jGo_join (xs : List ByteArray) : jGo xs 0 ⟨#[]⟩ = ⟨(Lib.join (xs.map (·.data.toList)) [47]).toArray⟩ := by
  cases xs with
  | nil => simp [jGo, Lib.join_nil]
  | cons a ls =>
    have h := jGo_data ls 0 a
    have h2 : jGo (a :: ls) 0 ⟨#[]⟩ = jGo ls 1 a := by
      show jGo ls 1 ((if 0 < 0 then _ else (⟨#[]⟩ : ByteArray)) ++ a) = _
      rw [if_neg (by omega)]
      congr 1
    rw [h2, List.map_cons, Lib.join_cons, ← h]
theorem jGo_size : ∀ (ls : List ByteArray) (i : Nat) (s : ByteArray), (∀ a ∈ ls, a.size ≤ 12) → (jGo ls i s).size ≤ s.size + 13 * ls.length
  | [], i, s, _ => by simp [jGo]
  | a :: ls, i, s, h => by
    unfold jGo
    have h1 := jGo_size ls (i + 1) ((if 0 < i then s ++ ⟨#[47]⟩ else s) ++ a) (fun b hb => h b (List.mem_cons_of_mem _ hb))
    have h2 := h a (List.mem_cons_self ..)
    have h3 : (⟨#[47]⟩ : ByteArray).size = 1 := rfl
    rw [List.length_cons]
    split at h1 <;> rename_i hi
    · rw [if_pos hi]; simp only [ByteArray.size_append] at h1; omega
    · rw [if_neg hi]; simp only [ByteArray.size_append] at h1; omega
noncomputable def M_LayoutText (xs : List ByteArray) : ByteArray := if LayoutOk xs then jGo xs 0 ⟨#[]⟩ else ⟨#[]⟩
set_option maxHeartbeats 3200000 in
set_option maxRecDepth 10000 in
theorem l06Text_any (p : Nat) (A : Option Addr) (c : Nat) (xs : List ByteArray) (h4 : xs.length ≤ 4) (h12 : ∀ a ∈ xs, a.size ≤ 12) (w : World) (rx : Row w A encStr 1 xs) (hp : p < w.heap.size) (hc : w.cell? ⟨p, 0, none⟩ = some (.slice A xs.length c)) :
    Calls Try.prog 59 #[.pointer (some ⟨p, 0, none⟩)] w (RS1 (jGo xs 0 ⟨#[]⟩) w) := by
  obtain ⟨R, hR⟩ : ∃ R, R = jGo xs 0 ⟨#[]⟩ := ⟨_, rfl⟩
  rw [← hR]
  have HR := Lib.hid hR
  clear hR
  go_enter Try.func59, Try.ntmps59
  go_wp2_with fail
  go_loopg [3, 4] xs.length (fun g ss is wr => ∃ (i : Nat) (s : ByteArray), i ≤ xs.length ∧ g = xs.length - i ∧ s.size ≤ 13 * i ∧ jGo (xs.drop i) i s = R ∧ Below w.heap.size w wr ∧ ss = .string s ∧ is = .int .i64 i)
  case atStart => exact ⟨0, ⟨#[]⟩, Nat.zero_le _, rfl, Nat.zero_le _, HR.out.symm, Below.refl _ _, rfl, rfl⟩
  case round =>
    obtain ⟨i, s, hi, hg, hsz, hgo, hbw, rfl, rfl⟩ := hrel
    have HG := Lib.hid hg
    clear hg
    have e0 := (hbw.cell (p := ⟨p, 0, none⟩) hp).trans hc
    have hpw := Nat.lt_of_lt_of_le hp hbw.size
    by_cases hlt : i < xs.length
    · rw [j_step xs i hlt] at hgo
      have hs12 := h12 _ (List.getElem_mem hlt)
      obtain ⟨b, off, hA, hb, c0⟩ := (rx.below hbw).at1 (f := fun x : ByteArray => .string x) hlt
      subst hA
      generalize xs[i] = a at *
      have i1 : (0 : Int) ≤ (i : Int) := by omega
      have i2 : (i : Int) < (xs.length : Int) := by omega
      by_cases hi0 : 0 < i
      · have hd : decide ((0 : Int) < (i : Int)) = true := by simp; omega
        rw [if_pos hi0] at hgo
        have HF := Lib.hid hgo
        have HSz := Lib.hid (show (s ++ ⟨#[47]⟩ ++ a).size ≤ 13 * (i + 1) by simp only [ByteArray.size_append]; have h1 : (⟨#[47]⟩ : ByteArray).size = 1 := rfl; omega)
        clear hgo
        go_wp2_with fail
        go_roundg (xs.length - (i + 1))
        case measure => rw [HG.out]; omega
        case rel => exact ⟨i + 1, _, by omega, rfl, HSz.out, HF.out, hbw, rfl, by go_num⟩
      · have hd : decide ((0 : Int) < (i : Int)) = false := by simp; omega
        rw [if_neg hi0] at hgo
        have HF := Lib.hid hgo
        have HSz := Lib.hid (show (s ++ a).size ≤ 13 * (i + 1) by simp only [ByteArray.size_append]; omega)
        clear hgo
        go_wp2_with fail
        go_roundg (xs.length - (i + 1))
        case measure => rw [HG.out]; omega
        case rel => exact ⟨i + 1, _, by omega, rfl, HSz.out, HF.out, hbw, rfl, by go_num⟩
    · have hfin : s = R := by
        rw [List.drop_of_length_le (by omega)] at hgo; exact hgo
      have HF := Lib.hid hfin
      clear hfin hgo
      go_wp2_with fail
      go_ret
      exact RS1.mk (by rw [HF.out]) hbw
set_option maxHeartbeats 800000 in
theorem spec_LayoutText_any (A : Option Addr) (c : Nat) (xs : List ByteArray) (hx : xs.length ≤ 1048576) (hk : ∀ x ∈ xs, KStringS x) (hcap : xs.length ≤ c) (w : World) (rx : Row w A encStr 1 xs) :
    Calls Try.prog 30 #[.agg #[.slice A xs.length c]] w (RS1 (M_LayoutText xs) w) := by
  obtain ⟨W0, hW0⟩ : ∃ W0, W0 = w.alloc (.cells #[.slice A xs.length c] 27) := ⟨_, rfl⟩
  have hB0 : Below w.heap.size w W0 := by rw [hW0]; exact bal (Below.refl _ _) _
  have hp : w.heap.size < W0.heap.size := by rw [hW0]; simp
  have hc : W0.cell? ⟨w.heap.size, 0, none⟩ = some (.slice A xs.length c) := by rw [hW0]; simp [go_sem]
  have HW := Lib.hid hW0
  clear hW0
  by_cases h : LayoutOk xs
  · have HM := Lib.hid (show M_LayoutText xs = jGo xs 0 ⟨#[]⟩ by unfold M_LayoutText; rw [if_pos h])
    go_enter Try.func30, Try.ntmps30
    go_wp2_with (first | (go_at_call 33; rw [← HW.out]; refine (RBb.yes (l06Ok_any w.heap.size A c xs hx hk W0 (rx.below hB0) hp hc) h).mono ?_; rintro e w1 ⟨rfl, hb1⟩) | (go_at_call 59; refine (l06Text_any w.heap.size A c xs h.1.2 (fun a ha => (h.2.1 a ha).2.1) _ (rx.below (bnext hB0 hb1)) (Nat.lt_of_lt_of_le hp hb1.size) ((hb1.cell (p := ⟨w.heap.size, 0, none⟩) hp).trans hc)).mono ?_; rintro e w2 ⟨s, rfl, hs, hb2⟩))
    go_ret
    exact RS1.mk (by rw [HM.out]) (bnext (bnext hB0 hb1) hb2)
  · have HM := Lib.hid (show M_LayoutText xs = ⟨#[]⟩ by unfold M_LayoutText; rw [if_neg h])
    go_enter Try.func30, Try.ntmps30
    go_wp2_with (first | (go_at_call 33; rw [← HW.out]; refine (RBb.no (l06Ok_any w.heap.size A c xs hx hk W0 (rx.below hB0) hp hc) h).mono ?_; rintro e w1 ⟨rfl, hb1⟩))
    go_ret
    exact RS1.mk HM.out.symm (bnext hB0 hb1)
set_option maxHeartbeats 800000 in
theorem impl_LayoutText_any (A : Option Addr) (c : Nat) (xs : List ByteArray) (hx : xs.length ≤ 1048576) (hk : ∀ x ∈ xs, KStringS x) (hcap : xs.length ≤ c) (w : World) (rx : Row w A encStr 1 xs) :
    Calls Try.prog 31 #[.agg #[.slice A xs.length c]] w (RS1 (M_LayoutText xs) w) := by
  obtain ⟨W0, hW0⟩ : ∃ W0, W0 = w.alloc (.cells #[.slice A xs.length c] 27) := ⟨_, rfl⟩
  have hB0 : Below w.heap.size w W0 := by rw [hW0]; exact bal (Below.refl _ _) _
  have hp : w.heap.size < W0.heap.size := by rw [hW0]; simp
  have hc : W0.cell? ⟨w.heap.size, 0, none⟩ = some (.slice A xs.length c) := by rw [hW0]; simp [go_sem]
  have HW := Lib.hid hW0
  clear hW0
  by_cases h : LayoutOk xs
  · have HM := Lib.hid (show M_LayoutText xs = jGo xs 0 ⟨#[]⟩ by unfold M_LayoutText; rw [if_pos h])
    have h0 : 0 < xs.length := h.1.1
    obtain ⟨b, off, hA, hb, _⟩ := rx.at1 (f := fun x : ByteArray => .string x) h0
    subst hA
    have HJ := Lib.hid (jGo_join xs)
    have hsz := jGo_size xs 0 ⟨#[]⟩ (fun a ha => (h.2.1 a ha).2.1)
    have hlen : (Lib.join (xs.map (·.data.toList)) (⟨#[47]⟩ : ByteArray).data.toList).length ≤ 140737488355328 := by
      rw [HJ.out] at hsz
      have h4 := h.1.2
      have e : (⟨(Lib.join (xs.map (·.data.toList)) [47]).toArray⟩ : ByteArray).size = (Lib.join (xs.map (·.data.toList)) [47]).length := by simp [ByteArray.size]
      rw [e] at hsz
      have e2 : (⟨#[]⟩ : ByteArray).size = 0 := rfl
      show (Lib.join _ [47]).length ≤ _
      omega
    have HL := Lib.hid hlen
    clear hsz hlen
    have hcells : ∀ (w' : World), Row w' (some ⟨b, off, none⟩) encStr 1 xs → ∀ (j : Nat) x, xs[j]? = some x → w'.cell? ⟨b, off + j, none⟩ = some (.string x) := by
      intro w' r j x hj
      have hjl := (List.getElem?_eq_some_iff.1 hj).1
      obtain ⟨b2, off2, hA2, _, c2⟩ := r.at1 (f := fun x : ByteArray => .string x) hjl
      simp only [Option.some.injEq, Addr.mk.injEq, and_true] at hA2
      obtain ⟨rfl, rfl⟩ := hA2
      rw [c2]
      rw [List.getElem?_eq_getElem hjl] at hj
      injection hj with hj
      rw [hj]
    have HC := Lib.hid hcells
    clear hcells
    go_enter Try.func31, Try.ntmps31
    go_wp2_with fail
    rw [← HW.out]
    go_wp2_with (first | (go_at_call 11; refine (RBb.yes (impl_ValidLayout_any (some ⟨b, off, none⟩) c xs hx hk _ (rx.below hB0)) h).mono ?_; rintro e w1 ⟨rfl, hb1⟩; have e1 := (hb1.cell (p := ⟨w.heap.size, 0, none⟩) hp).trans hc; have hp1 := Nat.lt_of_lt_of_le hp hb1.size) | (go_at_call 60; refine (join_any b off c xs ⟨#[47]⟩ _ (HC.out _ (rx.below (bnext hB0 hb1))) (Nat.lt_of_lt_of_le hb (bnext hB0 hb1).size) (by omega) hcap HL.out).mono ?_; rintro e w2 ⟨rfl, hb2⟩))
    go_ret
    exact RS1.mk (by rw [HM.out, HJ.out]) (bnext (bnext hB0 hb1) hb2)
  · have HM := Lib.hid (show M_LayoutText xs = ⟨#[]⟩ by unfold M_LayoutText; rw [if_neg h])
    go_enter Try.func31, Try.ntmps31
    go_wp2_with fail
    rw [← HW.out]
    go_wp2_with (first | (go_at_call 11; refine (RBb.no (impl_ValidLayout_any A c xs hx hk _ (rx.below hB0)) h).mono ?_; rintro e w1 ⟨rfl, hb1⟩))
    go_ret
    exact RS1.mk HM.out.symm (bnext hB0 hb1)
end Go.Proofs.Ytnliobhijmljpaa
