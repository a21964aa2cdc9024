/-
  FFast: the earliest strokes of bars without a jam: spec.l03Fast, impl.fastest; spec.TicksFor, impl.TicksFor.
-/
import Derived.Test.YtbcomfobnhekpaaFBars
import Derived.Test.YtbcomfobnhekpaaApps
import Derived.Test.YtbcomfobnhekpaaFStrokes
namespace Go.Proofs.Ytbcomfobnhekpaa
open Go.RowKit
set_option linter.unusedVariables false
attribute [local go_sem ↓] Go.wp_at_zero Go.wp_at_succ
def tickIn (x : TBasket) (bar : Int) : List TStroke → Int → Int
  | [], t => t
  | s :: ss, t => tickIn x bar ss (max t (s.2 + waitV x s.1 bar))
def fastGo (x : TBasket) : List Int → List TStroke → Int → List TStroke
  | [], out, _ => out
  | bar :: bs, out, t => fastGo x bs (out ++ [(bar, tickIn x bar out t)]) (tickIn x bar out t)
def FastF (x : TBasket) (xs : List Int) : List TStroke := fastGo x xs [] 0
noncomputable def M_TicksFor (x : TBasket) (xs : List Int) : Int × Int :=
  if BasketOk x then (if BarsOk x xs then (if xs.length = 0 then (0, 0) else (((FastF x xs).getD (xs.length - 1) (0, 0)).2 + x.2.1 + x.2.2.1, 0)) else (0, 2)) else (0, 1)
/-- What the strokes so far are. -/
structure FastOk (x : TBasket) (k : Nat) (out : List TStroke) (t : Int) : Prop where
  len : out.length = k
  t0 : 0 ≤ t
  t9 : t ≤ 200 * k
  all : ∀ (j : Nat) (h : j < out.length), (0 ≤ out[j].1 ∧ out[j].1 ≤ 60) ∧ 0 ≤ out[j].2 ∧ out[j].2 ≤ t
theorem FastOk.next {x : TBasket} {k : Nat} {out : List TStroke} {t t2 bar : Int} (h : FastOk x k out t) (hb : 0 ≤ bar ∧ bar ≤ 60) (h1 : t ≤ t2) (h2 : t2 ≤ t + 200) : FastOk x (k + 1) (out ++ [(bar, t2)]) t2 := by
  obtain ⟨hl, h0, h9, ha⟩ := h
  refine ⟨by simp [hl], by omega, by omega, fun j hj => ?_⟩
  rw [List.length_append] at hj
  simp only [List.length_cons, List.length_nil] at hj
  rcases Nat.lt_or_ge j out.length with hlt | hge
  · rw [List.getElem_append_left hlt]
    have := ha j hlt
    omega
  · have e : j = out.length := by omega
    subst e
    simp only [List.getElem_append_right (Nat.le_refl _), Nat.sub_self, List.getElem_cons_zero]
    omega
theorem tickIn_bd (x : TBasket) (hx : BasketOk x) (bar t0 : Int) : ∀ (ss : List TStroke) (t : Int), (∀ s ∈ ss, s.2 ≤ t0) → t0 ≤ t → t ≤ t0 + 200 → t ≤ tickIn x bar ss t ∧ tickIn x bar ss t ≤ t0 + 200
  | [], t, _, h1, h2 => ⟨Int.le_refl _, h2⟩
  | s :: ss, t, hs, h1, h2 => by
    have hw := waitV_bd x hx s.1 bar
    have h3 := hs s (List.mem_cons_self ..)
    have := tickIn_bd x hx bar t0 ss (max t (s.2 + waitV x s.1 bar)) (fun y hy => hs y (List.mem_cons_of_mem _ hy)) (by omega) (by omega)
    exact ⟨by unfold tickIn; omega, this.2⟩
theorem tick_step (x : TBasket) (bar : Int) (out : List TStroke) (m : Nat) (h : m < out.length) (t : Int) : tickIn x bar (out.drop m) t = tickIn x bar (out.drop (m + 1)) (max t (out[m].2 + waitV x out[m].1 bar)) := by
  rw [List.drop_eq_getElem_cons h]; rfl
theorem fast_step (x : TBasket) (xs : List Int) (k : Nat) (h : k < xs.length) (out : List TStroke) (t : Int) :
    fastGo x (xs.drop k) out t = fastGo x (xs.drop (k + 1)) (out ++ [(xs[k], tickIn x xs[k] out t)]) (tickIn x xs[k] out t) := by
  rw [List.drop_eq_getElem_cons h]; rfl
theorem fast_len (x : TBasket) : ∀ (xs : List Int) (out : List TStroke) (t : Int), (fastGo x xs out t).length = xs.length + out.length
  | [], out, t => by simp [fastGo]
  | b :: bs, out, t => by unfold fastGo; rw [fast_len x bs]; simp; omega
theorem mem_drop_le {out : List TStroke} {t : Int} {m : Nat} (h : ∀ (j : Nat) (h : j < out.length), (0 ≤ out[j].1 ∧ out[j].1 ≤ 60) ∧ 0 ≤ out[j].2 ∧ out[j].2 ≤ t) : ∀ s ∈ out.drop m, s.2 ≤ t := by
  intro s hs
  obtain ⟨j, hj, rfl⟩ := List.getElem_of_mem (List.mem_of_mem_drop hs)
  exact (h j hj).2.2
theorem fast_bd (x : TBasket) (hx : BasketOk x) : ∀ (bs : List Int) (k : Nat) (out : List TStroke) (t : Int), FastOk x k out t → k + bs.length ≤ 60 → (∀ n ∈ bs, 0 ≤ n ∧ n ≤ 60) → ∀ s ∈ fastGo x bs out t, 0 ≤ s.2 ∧ s.2 ≤ 12000
  | [], k, out, t, h, hk, _ => by
    intro s hs
    obtain ⟨j, hj, rfl⟩ := List.getElem_of_mem hs
    have := h.all j hj
    have := h.t9
    show 0 ≤ out[j].2 ∧ out[j].2 ≤ 12000
    simp at hk
    omega
  | b :: bs, k, out, t, h, hk, hb => by
    unfold fastGo
    simp only [List.length_cons] at hk
    have hT := tickIn_bd x hx b t out t (fun s hs => mem_drop_le (m := 0) h.all s hs) (Int.le_refl _) (by omega)
    exact fast_bd x hx bs (k + 1) _ _ (h.next (hb b (List.mem_cons_self ..)) hT.1 hT.2) (by omega) (fun n hn => hb n (List.mem_cons_of_mem _ hn))
theorem FastF_bd (x : TBasket) (hx : BasketOk x) (xs : List Int) (h : BarsOk x xs) : ∀ s ∈ FastF x xs, 0 ≤ s.2 ∧ s.2 ≤ 12000 :=
  fast_bd x hx xs 0 [] 0 ⟨rfl, by omega, by omega, fun j h => absurd h (by simp)⟩ (by have := h.1; omega) (fun n hn => by have := h.2 n hn; have := hx.2.1; omega)
theorem FastF_len (x : TBasket) (xs : List Int) : (FastF x xs).length = xs.length := by unfold FastF; rw [fast_len]; simp
theorem AtBasket.nextB {B : Nat} {w w' : World} {b : Nat} {x : TBasket} (h : AtBasket w b x) (hb : Below B w w') (hB : b < B) : AtBasket w' b x :=
  ⟨Nat.lt_of_lt_of_le h.1 hb.size, (hb.cell (p := ⟨b, 0, none⟩) hB).trans h.2.1, (hb.cell (p := ⟨b, 1, none⟩) hB).trans h.2.2.1, (hb.cell (p := ⟨b, 2, none⟩) hB).trans h.2.2.2.1, (hb.cell (p := ⟨b, 3, none⟩) hB).trans h.2.2.2.2.1, (hb.cell (p := ⟨b, 4, none⟩) hB).trans h.2.2.2.2.2⟩
set_option maxHeartbeats 6400000 in
set_option maxRecDepth 10000 in
theorem fastest_any (x : TBasket) (hx : BasketOk x) (A : Option Addr) (c : Nat) (xs : List Int) (hk : BarsOk x xs) (w : World) (rx : Row w A encInt 1 xs) :
    Calls Try.prog 97 #[.agg #[.int .i64 x.1, .int .i64 x.2.1, .int .i64 x.2.2.1, .int .i64 x.2.2.2.1, .int .i64 x.2.2.2.2], .slice A xs.length c] w fun e w' => ∃ v, e = .returned v ∧ Own w' w.heap.size 103 encStroke 2 v (FastF x xs) ∧ Below w.heap.size w w' := by
  obtain ⟨W0, hW0⟩ : ∃ W0, W0 = w.alloc (.cells #[.int .i64 x.1, .int .i64 x.2.1, .int .i64 x.2.2.1, .int .i64 x.2.2.2.1, .int .i64 x.2.2.2.2] 32) := ⟨_, rfl⟩
  have hB0 : Below w.heap.size w W0 := by rw [hW0]; exact bal (Below.refl _ _) _
  have k0 : AtBasket W0 w.heap.size x := by rw [hW0]; exact AtBasket.new w _ x
  have HW := Lib.hid hW0
  clear hW0
  obtain ⟨i0, hi, hz, hsz, hby⟩ := info_parts infoStroke
  obtain ⟨R, hR⟩ : ∃ R, R = FastF x xs := ⟨_, rfl⟩
  rw [← hR]
  have HR := Lib.hid hR
  clear hR
  have h60 := hk.1
  have hbars := hx.2.1
  have hxl : xs.length ≤ 1048576 := by omega
  go_enter Try.func97, Try.ntmps97
  go_wp2_with fail
  rw [← HW.out]
  have hB1 : Below w.heap.size w (W0.alloc (.cells #[] 103)) := bal hB0 _
  have o1 : Own (W0.alloc (.cells #[] 103)) (w.heap.size + 1) 103 encStroke 2 (.slice (some ⟨w.heap.size + 1, 0, none⟩) 0 0) [] := by
    have e : W0.heap.size = w.heap.size + 1 := by rw [HW.out]; simp [go_sem]
    rw [← e]
    exact Own.lit0 (e := encStroke) (s := 2) W0 (fun _ => rfl) W0.heap.size 103 (Nat.le_refl _)
  go_wp2_with fail
  go_loopg [5, 6, 14] xs.length (fun g vs ts is wr => ∃ (k : Nat) (out : List TStroke) (t : Int), k ≤ xs.length ∧ g = xs.length - k ∧ FastOk x k out t ∧ fastGo x (xs.drop k) out t = R ∧ Own wr (w.heap.size + 1) 103 encStroke 2 vs out ∧ Below w.heap.size w wr ∧ AtBasket wr w.heap.size x ∧ ts = .int .i64 t ∧ is = .int .i64 k)
  case atStart => exact ⟨0, [], 0, Nat.zero_le _, rfl, ⟨rfl, by omega, by omega, fun j h => absurd h (by simp)⟩, by rw [HR.out]; rfl, o1, hB1, k0.next (bal (Below.refl _ _) _), rfl, rfl⟩
  case round =>
    obtain ⟨k, out, t, hkk, hg, hok, hgo, hown, hbw, k1, rfl, rfl⟩ := hrel
    obtain ⟨A2, c2, rfl, ry, hob⟩ := hown.form
    have HG := Lib.hid hg
    have HO := Lib.hid hok
    have hol := hok.len
    have HL := Lib.hid hol
    have HB := Lib.hid hob
    clear hg hol hob
    by_cases hlt : k < xs.length
    · rw [fast_step x xs k hlt] at hgo
      have HF := Lib.hid hgo
      clear hgo
      obtain ⟨T, hT⟩ : ∃ T, T = tickIn x xs[k] out t := ⟨_, rfl⟩
      have HT := Lib.hid hT
      have hT2 : t ≤ T ∧ T ≤ t + 200 := by rw [hT]; exact tickIn_bd x hx _ t out t (fun s hs => mem_drop_le (m := 0) hok.all s hs) (Int.le_refl _) (by omega)
      obtain ⟨hT3, hT4⟩ := hT2
      have ht0 := hok.t0
      have ht9 := hok.t9
      have hbar := hk.2 _ (List.getElem_mem hlt)
      have hbar1 : 0 ≤ xs[k] ∧ xs[k] ≤ 60 := by omega
      have HBar := Lib.hid hbar1
      clear hT hok hbar hbar1
      obtain ⟨b, off, hA, hbb, c0⟩ := (rx.below hbw).at1 (f := fun x : Int => .int .i64 x) hlt
      subst hA
      have i1 : (0 : Int) ≤ (k : Int) := by omega
      have i2 : (k : Int) < (xs.length : Int) := by omega
      go_wp2_with fail
      go_loopg [6, 20] k (fun g2 t2s ms wi => ∃ (m : Nat) (t2 : Int), m ≤ k ∧ g2 = k - m ∧ tickIn x xs[k] (out.drop m) t2 = T ∧ t ≤ t2 ∧ t2 ≤ t + 200 ∧ Below wr.heap.size wr wi ∧ t2s = .int .i64 t2 ∧ ms = .int .i64 m)
      case atStart => exact ⟨0, t, Nat.zero_le _, rfl, HT.out.symm, Int.le_refl _, by omega, Below.refl _ _, rfl, rfl⟩
      case round =>
        obtain ⟨m, t2, hmm, hg2, hgo, ht2a, ht2b, hbi, rfl, rfl⟩ := hrel
        have HG2 := Lib.hid hg2
        have hB2 := bnext hbw hbi
        have k2 := k1.next hbi
        clear hg2
        by_cases hlt2 : m < k
        · have hmo : m < out.length := by rw [HL.out]; exact hlt2
          rw [tick_step x xs[k] out m hmo] at hgo
          rcases (by omega : (out[m].2 + waitV x out[m].1 xs[k]) ≤ t2 ∨ t2 < (out[m].2 + waitV x out[m].1 xs[k])) with hm | hm
          · rw [show max t2 (out[m].2 + waitV x out[m].1 xs[k]) = t2 from by omega] at hgo
            have HF2 := Lib.hid hgo
            have hs := HO.out.all m hmo
            have s1 := hs.1
            have s3 := hs.2.1
            have s4 := hs.2.2
            have hw := waitV_bd x hx out[m].1 xs[k]
            obtain ⟨hw1, hw2⟩ := hw
            have hs9 : out[m].2 + waitV x out[m].1 xs[k] ≤ 20000 := by omega
            have hs8 : 0 ≤ out[m].2 + waitV x out[m].1 xs[k] := by omega
            have hs7 : IntKind.i64.wrap (out[m].2 + waitV x out[m].1 xs[k]) = out[m].2 + waitV x out[m].1 xs[k] := (IntWalk.i64_in _ (by omega))
            clear hgo hs
            obtain ⟨b3, off3, hA3, hb3, d0, d1⟩ := (ry.below hbi).at2 (f := fun x : TStroke => .int .i64 x.1) (g := fun x : TStroke => .int .i64 x.2) (k := m) hmo
            subst hA3
            have c0' := (hbi.cell (p := ⟨b, _, none⟩) hbb).trans c0
            have j1 : (0 : Int) ≤ (m : Int) := by omega
            have j2 : (m : Int) < (k : Int) := by omega
            have j3 : (m : Int) < (out.length : Int) := by omega
            go_wp2_with fail
            obtain ⟨W1, hW1⟩ : ∃ W1, W1 = wr.alloc (.cells #[.int .i64 out[m].1, .int .i64 out[m].2] 103) := ⟨_, rfl⟩
            have hb4 : Below wr.heap.size wr W1 := by rw [hW1]; exact bal (Below.refl _ _) _
            have k3 : AtStroke W1 wr.heap.size (out[m].1, out[m].2) := by rw [hW1]; exact AtStroke.new _ _ _
            have k4 := k2.next hb4
            rw [← hW1]
            clear hW1
            go_region_held3 (fun w' => (w'.cell? ⟨w.heap.size, 0, none⟩ = some (.int .i64 x.1) ∧ w'.cell? ⟨w.heap.size, 1, none⟩ = some (.int .i64 x.2.1) ∧ w'.cell? ⟨w.heap.size, 2, none⟩ = some (.int .i64 x.2.2.1) ∧ w'.cell? ⟨w.heap.size, 3, none⟩ = some (.int .i64 x.2.2.2.1) ∧ w'.cell? ⟨w.heap.size, 4, none⟩ = some (.int .i64 x.2.2.2.2)) ∧ w'.cell? ⟨wr.heap.size, 0, none⟩ = some (.int .i64 out[m].1) ∧ w'.cell? ⟨wr.heap.size, 1, none⟩ = some (.int .i64 out[m].2)) (first | exact ⟨k4.2, k3.2.1, k3.2.2⟩ | exact ⟨(k4.next (bundrew hb5)).2, (k3.next (bundrew hb5)).2⟩) (first | (go_at_call 137; refine (waits_any x hx out[m].1 xs[k] s1 HBar.out _).mono ?_; rintro e w5 ⟨rfl, hb5⟩))
            have hb6 := bnext hb4 (bundrew hb5)
            go_wp2_with fail
            go_roundg (k - (m + 1))
            case measure => rw [HG2.out]; omega
            case rel => exact ⟨m + 1, _, by omega, rfl, HF2.out, by omega, by omega, bnext hbi hb6, by go_num, by go_num⟩
          · rw [show max t2 (out[m].2 + waitV x out[m].1 xs[k]) = (out[m].2 + waitV x out[m].1 xs[k]) from by omega] at hgo
            have HF2 := Lib.hid hgo
            have hs := HO.out.all m hmo
            have s1 := hs.1
            have s3 := hs.2.1
            have s4 := hs.2.2
            have hw := waitV_bd x hx out[m].1 xs[k]
            obtain ⟨hw1, hw2⟩ := hw
            have hs9 : out[m].2 + waitV x out[m].1 xs[k] ≤ 20000 := by omega
            have hs8 : 0 ≤ out[m].2 + waitV x out[m].1 xs[k] := by omega
            have hs7 : IntKind.i64.wrap (out[m].2 + waitV x out[m].1 xs[k]) = out[m].2 + waitV x out[m].1 xs[k] := (IntWalk.i64_in _ (by omega))
            clear hgo hs
            obtain ⟨b3, off3, hA3, hb3, d0, d1⟩ := (ry.below hbi).at2 (f := fun x : TStroke => .int .i64 x.1) (g := fun x : TStroke => .int .i64 x.2) (k := m) hmo
            subst hA3
            have c0' := (hbi.cell (p := ⟨b, _, none⟩) hbb).trans c0
            have j1 : (0 : Int) ≤ (m : Int) := by omega
            have j2 : (m : Int) < (k : Int) := by omega
            have j3 : (m : Int) < (out.length : Int) := by omega
            go_wp2_with fail
            obtain ⟨W1, hW1⟩ : ∃ W1, W1 = wr.alloc (.cells #[.int .i64 out[m].1, .int .i64 out[m].2] 103) := ⟨_, rfl⟩
            have hb4 : Below wr.heap.size wr W1 := by rw [hW1]; exact bal (Below.refl _ _) _
            have k3 : AtStroke W1 wr.heap.size (out[m].1, out[m].2) := by rw [hW1]; exact AtStroke.new _ _ _
            have k4 := k2.next hb4
            rw [← hW1]
            clear hW1
            go_region_held3 (fun w' => (w'.cell? ⟨w.heap.size, 0, none⟩ = some (.int .i64 x.1) ∧ w'.cell? ⟨w.heap.size, 1, none⟩ = some (.int .i64 x.2.1) ∧ w'.cell? ⟨w.heap.size, 2, none⟩ = some (.int .i64 x.2.2.1) ∧ w'.cell? ⟨w.heap.size, 3, none⟩ = some (.int .i64 x.2.2.2.1) ∧ w'.cell? ⟨w.heap.size, 4, none⟩ = some (.int .i64 x.2.2.2.2)) ∧ w'.cell? ⟨wr.heap.size, 0, none⟩ = some (.int .i64 out[m].1) ∧ w'.cell? ⟨wr.heap.size, 1, none⟩ = some (.int .i64 out[m].2)) (first | exact ⟨k4.2, k3.2.1, k3.2.2⟩ | exact ⟨(k4.next (bundrew hb5)).2, (k3.next (bundrew hb5)).2⟩) (first | (go_at_call 137; refine (waits_any x hx out[m].1 xs[k] s1 HBar.out _).mono ?_; rintro e w5 ⟨rfl, hb5⟩))
            have hb6 := bnext hb4 (bundrew hb5)
            go_wp2_with fail
            go_roundg (k - (m + 1))
            case measure => rw [HG2.out]; omega
            case rel => exact ⟨m + 1, _, by omega, rfl, HF2.out, by omega, by omega, bnext hbi hb6, by go_num, by go_num⟩
        · have hgo2 : t2 = T := by rw [← hgo, List.drop_of_length_le (by rw [HL.out]; omega)]; rfl
          subst hgo2
          have hno : ¬ m < out.length := by rw [HL.out]; omega
          have hno2 : out.length ≤ m := by omega
          have c0' := (hbi.cell (p := ⟨b, _, none⟩) hbb).trans c0
          have o2 := (hown.below hbi).below (bal (Below.refl _ _) (.cells #[.int .i64 xs[k], .int .i64 t2] 103))
          have k3 := k2.next (bal (Below.refl _ _) (.cells #[.int .i64 xs[k], .int .i64 t2] 103))
          go_wp2_with (at_builtin; refine app_own rfl _ _ 43 rfl (w.heap.size + 1) 103 i0 _ 2 16 Try.underlying43 hi hz hsz hby rfl (by decide) _ out rfl o2 ⟨_, 0, none⟩ 1 (xs[k], t2) rfl (cells_two_new _ _ _ _) (by simp [Value.oneCell']) (by rw [HL.out]; unfold maxLen; omega) (by rw [HL.out]; omega) (by have := hB2.size; have := k2.1; simp [go_sem]; omega) ?_; intro v2 w2 hown2 hg2)
          go_roundg (xs.length - (k + 1))
          case measure => rw [HG.out]; omega
          case rel =>
            have hb7 := below_own (B := w.heap.size + 1) o2 hg2 (Nat.le_refl _) (by have := k2.1; simp [go_sem]; omega)
            exact ⟨k + 1, _, _, by omega, rfl, HO.out.next HBar.out hT3 hT4, by rw [HT.out] at *; exact HF.out, hown2, (bal hB2 _).trans (hb7.mono (by omega)), k3.nextB hb7 (by omega), rfl, by go_num⟩
    · have hfin : out = R := by
        rw [List.drop_of_length_le (by omega)] at hgo; exact hgo
      subst hfin
      go_wp2_with fail
      go_ret
      exact ⟨_, rfl, hown.mono (by omega), hbw⟩
set_option maxHeartbeats 6400000 in
set_option maxRecDepth 10000 in
theorem l03Fast_any (x : TBasket) (hx : BasketOk x) (A : Option Addr) (c : Nat) (xs : List Int) (hk : BarsOk x xs) (w : World) (rx : Row w A encInt 1 xs) :
    Calls Try.prog 95 #[.agg #[.int .i64 x.1, .int .i64 x.2.1, .int .i64 x.2.2.1, .int .i64 x.2.2.2.1, .int .i64 x.2.2.2.2], .slice A xs.length c] w fun e w' => ∃ v, e = .returned v ∧ Own w' w.heap.size 103 encStroke 2 v (FastF x xs) ∧ Below w.heap.size w w' := by
  obtain ⟨W0, hW0⟩ : ∃ W0, W0 = w.alloc (.cells #[.int .i64 x.1, .int .i64 x.2.1, .int .i64 x.2.2.1, .int .i64 x.2.2.2.1, .int .i64 x.2.2.2.2] 32) := ⟨_, rfl⟩
  have hB0 : Below w.heap.size w W0 := by rw [hW0]; exact bal (Below.refl _ _) _
  have k0 : AtBasket W0 w.heap.size x := by rw [hW0]; exact AtBasket.new w _ x
  have HW := Lib.hid hW0
  clear hW0
  obtain ⟨i0, hi, hz, hsz, hby⟩ := info_parts infoStroke
  obtain ⟨R, hR⟩ : ∃ R, R = FastF x xs := ⟨_, rfl⟩
  rw [← hR]
  have HR := Lib.hid hR
  clear hR
  have h60 := hk.1
  have hbars := hx.2.1
  have hxl : xs.length ≤ 1048576 := by omega
  go_enter Try.func95, Try.ntmps95
  go_wp2_with fail
  rw [← HW.out]
  have hB1 : Below w.heap.size w (W0.alloc (.cells #[] 103)) := bal hB0 _
  have o1 : Own (W0.alloc (.cells #[] 103)) (w.heap.size + 1) 103 encStroke 2 (.slice (some ⟨w.heap.size + 1, 0, none⟩) 0 0) [] := by
    have e : W0.heap.size = w.heap.size + 1 := by rw [HW.out]; simp [go_sem]
    rw [← e]
    exact Own.lit0 (e := encStroke) (s := 2) W0 (fun _ => rfl) W0.heap.size 103 (Nat.le_refl _)
  go_wp2_with fail
  go_loopg [5, 6, 7] xs.length (fun g vs ts is wr => ∃ (k : Nat) (out : List TStroke) (t : Int), k ≤ xs.length ∧ g = xs.length - k ∧ FastOk x k out t ∧ fastGo x (xs.drop k) out t = R ∧ Own wr (w.heap.size + 1) 103 encStroke 2 vs out ∧ Below w.heap.size w wr ∧ AtBasket wr w.heap.size x ∧ ts = .int .i64 t ∧ is = .int .i64 k)
  case atStart => exact ⟨0, [], 0, Nat.zero_le _, rfl, ⟨rfl, by omega, by omega, fun j h => absurd h (by simp)⟩, by rw [HR.out]; rfl, o1, hB1, k0.next (bal (Below.refl _ _) _), rfl, rfl⟩
  case round =>
    obtain ⟨k, out, t, hkk, hg, hok, hgo, hown, hbw, k1, rfl, rfl⟩ := hrel
    obtain ⟨A2, c2, rfl, ry, hob⟩ := hown.form
    have HG := Lib.hid hg
    have HO := Lib.hid hok
    have hol := hok.len
    have HL := Lib.hid hol
    have HB := Lib.hid hob
    clear hg hol hob
    by_cases hlt : k < xs.length
    · rw [fast_step x xs k hlt] at hgo
      have HF := Lib.hid hgo
      clear hgo
      obtain ⟨T, hT⟩ : ∃ T, T = tickIn x xs[k] out t := ⟨_, rfl⟩
      have HT := Lib.hid hT
      have hT2 : t ≤ T ∧ T ≤ t + 200 := by rw [hT]; exact tickIn_bd x hx _ t out t (fun s hs => mem_drop_le (m := 0) hok.all s hs) (Int.le_refl _) (by omega)
      obtain ⟨hT3, hT4⟩ := hT2
      have ht0 := hok.t0
      have ht9 := hok.t9
      have hbar := hk.2 _ (List.getElem_mem hlt)
      have hbar1 : 0 ≤ xs[k] ∧ xs[k] ≤ 60 := by omega
      have HBar := Lib.hid hbar1
      clear hT hok hbar hbar1
      obtain ⟨b, off, hA, hbb, c0⟩ := (rx.below hbw).at1 (f := fun x : Int => .int .i64 x) hlt
      subst hA
      have i1 : (0 : Int) ≤ (k : Int) := by omega
      have i2 : (k : Int) < (xs.length : Int) := by omega
      go_wp2_with fail
      go_loopg [6, 8] k (fun g2 t2s ms wi => ∃ (m : Nat) (t2 : Int), m ≤ k ∧ g2 = k - m ∧ tickIn x xs[k] (out.drop m) t2 = T ∧ t ≤ t2 ∧ t2 ≤ t + 200 ∧ Below wr.heap.size wr wi ∧ t2s = .int .i64 t2 ∧ ms = .int .i64 m)
      case atStart => exact ⟨0, t, Nat.zero_le _, rfl, HT.out.symm, Int.le_refl _, by omega, Below.refl _ _, rfl, rfl⟩
      case round =>
        obtain ⟨m, t2, hmm, hg2, hgo, ht2a, ht2b, hbi, rfl, rfl⟩ := hrel
        have HG2 := Lib.hid hg2
        have hB2 := bnext hbw hbi
        have k2 := k1.next hbi
        clear hg2
        by_cases hlt2 : m < k
        · have hmo : m < out.length := by rw [HL.out]; exact hlt2
          rw [tick_step x xs[k] out m hmo] at hgo
          rcases (by omega : (out[m].2 + waitV x out[m].1 xs[k]) ≤ t2 ∨ t2 < (out[m].2 + waitV x out[m].1 xs[k])) with hm | hm
          · rw [show max t2 (out[m].2 + waitV x out[m].1 xs[k]) = t2 from by omega] at hgo
            have HF2 := Lib.hid hgo
            have hs := HO.out.all m hmo
            have s1 := hs.1
            have s3 := hs.2.1
            have s4 := hs.2.2
            have hw := waitV_bd x hx out[m].1 xs[k]
            obtain ⟨hw1, hw2⟩ := hw
            have hs9 : out[m].2 + waitV x out[m].1 xs[k] ≤ 20000 := by omega
            have hs8 : 0 ≤ out[m].2 + waitV x out[m].1 xs[k] := by omega
            have hs7 : IntKind.i64.wrap (out[m].2 + waitV x out[m].1 xs[k]) = out[m].2 + waitV x out[m].1 xs[k] := (IntWalk.i64_in _ (by omega))
            clear hgo hs
            obtain ⟨b3, off3, hA3, hb3, d0, d1⟩ := (ry.below hbi).at2 (f := fun x : TStroke => .int .i64 x.1) (g := fun x : TStroke => .int .i64 x.2) (k := m) hmo
            subst hA3
            have c0' := (hbi.cell (p := ⟨b, _, none⟩) hbb).trans c0
            have j1 : (0 : Int) ≤ (m : Int) := by omega
            have j2 : (m : Int) < (k : Int) := by omega
            have j3 : (m : Int) < (out.length : Int) := by omega
            go_wp2_with fail
            go_region_held3 (fun w' => (w'.cell? ⟨w.heap.size, 0, none⟩ = some (.int .i64 x.1) ∧ w'.cell? ⟨w.heap.size, 1, none⟩ = some (.int .i64 x.2.1) ∧ w'.cell? ⟨w.heap.size, 2, none⟩ = some (.int .i64 x.2.2.1) ∧ w'.cell? ⟨w.heap.size, 3, none⟩ = some (.int .i64 x.2.2.2.1) ∧ w'.cell? ⟨w.heap.size, 4, none⟩ = some (.int .i64 x.2.2.2.2)) ∧ w'.cell? ⟨b3, off3 + m * 2, none⟩ = some (.int .i64 out[m].1) ∧ w'.cell? ⟨b3, off3 + m * 2 + 1, none⟩ = some (.int .i64 out[m].2) ∧ w'.cell? ⟨b, off + k, none⟩ = some (.int .i64 xs[k])) (first | exact ⟨k2.2, d0, d1, c0'⟩ | exact ⟨(k2.next (bundrew hb5)).2, (hb5.cell (p := ⟨b3, _, none⟩) hb3).trans d0, (hb5.cell (p := ⟨b3, _, none⟩) hb3).trans d1, (hb5.cell (p := ⟨b, _, none⟩) (Nat.lt_of_lt_of_le hbb hbi.size)).trans c0'⟩) (first | (go_at_call 136; refine (l03Wait_any x hx out[m].1 xs[k] s1 HBar.out _).mono ?_; rintro e w5 ⟨rfl, hb5⟩) | (go_at_call 135; refine (l00Max_any _ _ _).mono ?_; rintro e w6 ⟨rfl, rfl⟩))
            have hb6 := bundrew hb5
            go_wp2_with fail
            go_roundg (k - (m + 1))
            case measure => rw [HG2.out]; omega
            case rel => exact ⟨m + 1, _, by omega, rfl, HF2.out, by omega, by omega, bnext hbi hb6, by go_num, by go_num⟩
          · rw [show max t2 (out[m].2 + waitV x out[m].1 xs[k]) = (out[m].2 + waitV x out[m].1 xs[k]) from by omega] at hgo
            have HF2 := Lib.hid hgo
            have hs := HO.out.all m hmo
            have s1 := hs.1
            have s3 := hs.2.1
            have s4 := hs.2.2
            have hw := waitV_bd x hx out[m].1 xs[k]
            obtain ⟨hw1, hw2⟩ := hw
            have hs9 : out[m].2 + waitV x out[m].1 xs[k] ≤ 20000 := by omega
            have hs8 : 0 ≤ out[m].2 + waitV x out[m].1 xs[k] := by omega
            have hs7 : IntKind.i64.wrap (out[m].2 + waitV x out[m].1 xs[k]) = out[m].2 + waitV x out[m].1 xs[k] := (IntWalk.i64_in _ (by omega))
            clear hgo hs
            obtain ⟨b3, off3, hA3, hb3, d0, d1⟩ := (ry.below hbi).at2 (f := fun x : TStroke => .int .i64 x.1) (g := fun x : TStroke => .int .i64 x.2) (k := m) hmo
            subst hA3
            have c0' := (hbi.cell (p := ⟨b, _, none⟩) hbb).trans c0
            have j1 : (0 : Int) ≤ (m : Int) := by omega
            have j2 : (m : Int) < (k : Int) := by omega
            have j3 : (m : Int) < (out.length : Int) := by omega
            go_wp2_with fail
            go_region_held3 (fun w' => (w'.cell? ⟨w.heap.size, 0, none⟩ = some (.int .i64 x.1) ∧ w'.cell? ⟨w.heap.size, 1, none⟩ = some (.int .i64 x.2.1) ∧ w'.cell? ⟨w.heap.size, 2, none⟩ = some (.int .i64 x.2.2.1) ∧ w'.cell? ⟨w.heap.size, 3, none⟩ = some (.int .i64 x.2.2.2.1) ∧ w'.cell? ⟨w.heap.size, 4, none⟩ = some (.int .i64 x.2.2.2.2)) ∧ w'.cell? ⟨b3, off3 + m * 2, none⟩ = some (.int .i64 out[m].1) ∧ w'.cell? ⟨b3, off3 + m * 2 + 1, none⟩ = some (.int .i64 out[m].2) ∧ w'.cell? ⟨b, off + k, none⟩ = some (.int .i64 xs[k])) (first | exact ⟨k2.2, d0, d1, c0'⟩ | exact ⟨(k2.next (bundrew hb5)).2, (hb5.cell (p := ⟨b3, _, none⟩) hb3).trans d0, (hb5.cell (p := ⟨b3, _, none⟩) hb3).trans d1, (hb5.cell (p := ⟨b, _, none⟩) (Nat.lt_of_lt_of_le hbb hbi.size)).trans c0'⟩) (first | (go_at_call 136; refine (l03Wait_any x hx out[m].1 xs[k] s1 HBar.out _).mono ?_; rintro e w5 ⟨rfl, hb5⟩) | (go_at_call 135; refine (l00Max_any _ _ _).mono ?_; rintro e w6 ⟨rfl, rfl⟩))
            have hb6 := bundrew hb5
            go_wp2_with fail
            go_roundg (k - (m + 1))
            case measure => rw [HG2.out]; omega
            case rel => exact ⟨m + 1, _, by omega, rfl, HF2.out, by omega, by omega, bnext hbi hb6, by go_num, by go_num⟩
        · have hgo2 : t2 = T := by rw [← hgo, List.drop_of_length_le (by rw [HL.out]; omega)]; rfl
          subst hgo2
          have hno : ¬ m < out.length := by rw [HL.out]; omega
          have hno2 : out.length ≤ m := by omega
          have c0' := (hbi.cell (p := ⟨b, _, none⟩) hbb).trans c0
          have o2 := (hown.below hbi).below (bal (Below.refl _ _) (.cells #[.int .i64 xs[k], .int .i64 t2] 103))
          have k3 := k2.next (bal (Below.refl _ _) (.cells #[.int .i64 xs[k], .int .i64 t2] 103))
          go_wp2_with (at_builtin; refine app_own rfl _ _ 43 rfl (w.heap.size + 1) 103 i0 _ 2 16 Try.underlying43 hi hz hsz hby rfl (by decide) _ out rfl o2 ⟨_, 0, none⟩ 1 (xs[k], t2) rfl (cells_two_new _ _ _ _) (by simp [Value.oneCell']) (by rw [HL.out]; unfold maxLen; omega) (by rw [HL.out]; omega) (by have := hB2.size; have := k2.1; simp [go_sem]; omega) ?_; intro v2 w2 hown2 hg2)
          go_roundg (xs.length - (k + 1))
          case measure => rw [HG.out]; omega
          case rel =>
            have hb7 := below_own (B := w.heap.size + 1) o2 hg2 (Nat.le_refl _) (by have := k2.1; simp [go_sem]; omega)
            exact ⟨k + 1, _, _, by omega, rfl, HO.out.next HBar.out hT3 hT4, by rw [HT.out] at *; exact HF.out, hown2, (bal hB2 _).trans (hb7.mono (by omega)), k3.nextB hb7 (by omega), rfl, by go_num⟩
    · have hfin : out = R := by
        rw [List.drop_of_length_le (by omega)] at hgo; exact hgo
      subst hfin
      go_wp2_with fail
      go_ret
      exact ⟨_, rfl, hown.mono (by omega), hbw⟩
end Go.Proofs.Ytbcomfobnhekpaa
