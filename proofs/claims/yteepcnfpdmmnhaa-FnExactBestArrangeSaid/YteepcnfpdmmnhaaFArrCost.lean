/-
  FArrCost: codes and costs of an arrangement: spec.l05Code, l05Cost, ArrangeCost; impl.arrangeCode, cost, ArrangeCost.
-/
import Derived.Test.YteepcnfpdmmnhaaFArr
namespace Go.Proofs.Yteepcnfpdmmnhaa
open Go.RowKit
set_option linter.unusedVariables false
attribute [local go_sem ↓] Go.wp_at_zero Go.wp_at_succ
def wF (x : TBasket) (ps : List Int) (i k : Nat) : Int := waitV x (ps.getD i 0) (ps.getD k 0)
theorem getD_eq (ps : List Int) (k : Nat) (h : k < ps.length) : ps.getD k 0 = ps[k] := by rw [List.getD_eq_getElem?_getD, List.getElem?_eq_getElem h]; rfl
theorem wF_eq (x : TBasket) (ps : List Int) (i k : Nat) (hi : i < ps.length) (hk : k < ps.length) : wF x ps i k = waitV x ps[i] ps[k] := by unfold wF; rw [getD_eq ps i hi, getD_eq ps k hk]
def costA (x : TBasket) (xs : List (List Int)) (ps : List Int) : Int := allS (wF x ps) xs 0 0
theorem rowS_bd (f : Nat → Int) (hf : ∀ k, 0 ≤ f k ∧ f k ≤ 200) : ∀ (r : List Int) (k : Nat) (s : Int), (∀ n ∈ r, 0 ≤ n ∧ n ≤ 1000) → s ≤ rowS f r k s ∧ rowS f r k s ≤ s + 200000 * r.length
  | [], k, s, _ => by simp [rowS]
  | n :: ns, k, s, h => by
    unfold rowS
    have h1 := mul_bd (h n (List.mem_cons_self ..)) (hf k)
    have h2 := rowS_bd f hf ns (k + 1) (s + n * f k) (fun m hm => h m (List.mem_cons_of_mem _ hm))
    simp only [List.length_cons]
    omega
theorem allS_bd (f : Nat → Nat → Int) (hf : ∀ i k, 0 ≤ f i k ∧ f i k ≤ 200) (m : Nat) (hm : m ≤ 7) : ∀ (xs : List (List Int)) (i : Nat) (s : Int), (∀ r ∈ xs, r.length = m ∧ ∀ n ∈ r, 0 ≤ n ∧ n ≤ 1000) → s ≤ allS f xs i s ∧ allS f xs i s ≤ s + 1400000 * xs.length
  | [], i, s, _ => by simp [allS]
  | r :: rs, i, s, h => by
    unfold allS
    have hr := h r (List.mem_cons_self ..)
    have h1 := rowS_bd (f i) (hf i) r 0 s hr.2
    have h2 := allS_bd f hf m hm rs (i + 1) (rowS (f i) r 0 s) (fun q hq => h q (List.mem_cons_of_mem _ hq))
    simp only [List.length_cons]
    have := hr.1
    omega
theorem costA_bd (x : TBasket) (hb : BasketOk x) (xs : List (List Int)) (h : PairsOk xs) (ps : List Int) : 0 ≤ costA x xs ps ∧ costA x xs ps ≤ 9800000 := by
  have h7 := h.1.2
  have := allS_bd (wF x ps) (fun i k => by have := waitV_bd x hb (ps.getD i 0) (ps.getD k 0); unfold wF; omega) xs.length (by omega) xs 0 0 h.2
  unfold costA
  omega
open Classical in
noncomputable def M_ArrangeCost (x : TBasket) (xs : List (List Int)) (ps : List Int) : Int × Int := if ArrAll x xs ps then (costA x xs ps, 0) else (0, arrCode x xs ps)
theorem places_at {x : TBasket} {ps : List Int} (hb : BasketOk x) (h : Places x ps) (k : Nat) (hk : k < ps.length) : 0 ≤ ps[k] ∧ ps[k] ≤ 60 := by
  have := (h k hk hk).1
  have := hb.2.1
  omega
set_option maxHeartbeats 6400000 in
set_option maxRecDepth 10000 in
theorem cost_any (x : TBasket) (h : BasketOk x) (A : Option Addr) (c : Nat) (xs : List (List Int)) (h2 : PairsOk xs) (B : Option Addr) (d : Nat) (ps : List Int) (hn : ps.length = xs.length) (hP : ∀ k (h : k < ps.length), 0 ≤ ps[k] ∧ ps[k] ≤ 60) (w : World) (rx : RowXX w A xs) (ry : Row w B encInt 1 ps) :
    Calls Try.prog 111 #[.agg #[.int .i64 x.1, .int .i64 x.2.1, .int .i64 x.2.2.1, .int .i64 x.2.2.2.1, .int .i64 x.2.2.2.2], .slice A xs.length c, .slice B ps.length d] w fun e w' => e = .returned (.int .i64 (costA x xs ps)) ∧ Below w.heap.size w w' := by
  obtain ⟨W0, hW0⟩ : ∃ W0, W0 = w.alloc (.cells #[.int .i64 x.1, .int .i64 x.2.1, .int .i64 x.2.2.1, .int .i64 x.2.2.2.1, .int .i64 x.2.2.2.2] 29) := ⟨_, rfl⟩
  have hB0 : Below w.heap.size w W0 := by rw [hW0]; exact bal (Below.refl _ _) _
  have k0 : AtBasket W0 w.heap.size x := by rw [hW0]; exact AtBasket.new w _ x
  have HW := Lib.hid hW0
  clear hW0
  obtain ⟨R, hR⟩ : ∃ R, R = costA x xs ps := ⟨_, rfl⟩
  rw [← hR]
  have HR := Lib.hid hR
  clear hR
  have hn1 := h2.1.1
  have hn2 := h2.1.2
  have HP := Lib.hid h2
  have HN := Lib.hid hn
  have HPl := Lib.hid hP
  have hnl : ps.length ≤ 7 := by omega
  have hnI : (ps.length : Int) = (xs.length : Int) := by omega
  have HNI := Lib.hid hnI
  clear hP h2 hnI
  rw [hn]
  go_enter Try.func111, Try.ntmps111
  go_wp2_with fail
  rw [← HW.out]
  go_loopg [7, 14] xs.length (fun g ss is wr => ∃ (i : Nat) (s : Int), i ≤ xs.length ∧ g = xs.length - i ∧ 0 ≤ s ∧ s ≤ 1400000 * i ∧ allS (wF x ps) (xs.drop i) i s = R ∧ Below W0.heap.size W0 wr ∧ ss = .int .i64 s ∧ is = .int .i64 i)
  case atStart => exact ⟨0, 0, Nat.zero_le _, rfl, by omega, by omega, HR.out.symm, Below.refl _ _, rfl, rfl⟩
  case round =>
    obtain ⟨i, s, hi, hg, hs0, hs9, hgo, hbw, rfl, rfl⟩ := hrel
    have HG := Lib.hid hg
    clear hg
    by_cases hlt : i < xs.length
    · rw [allS_step _ xs i hlt] at hgo
      have HF := Lib.hid hgo
      clear hgo
      have hrow := pairs_row HP.out i hlt
      have hlen := hrow.1
      have HL := Lib.hid hlen
      have HRow := Lib.hid hrow.2
      have hl5 : xs[i].length ≤ 7 := by omega
      clear hrow hlen
      obtain ⟨b, off, A', c', hA, hb', c0, rr, hll⟩ := (rx.below (bnext hB0 hbw)).at_ hlt
      subst hA
      go_wp2_with fail
      go_loopg [7, 21] xs.length (fun g2 ss ks wi => ∃ (k : Nat) (s2 : Int), k ≤ xs.length ∧ g2 = xs.length - k ∧ 0 ≤ s2 ∧ s2 ≤ 1400000 * i + 200000 * k ∧ allS (wF x ps) (xs.drop (i + 1)) (i + 1) (rowS (wF x ps i) (xs[i].drop k) k s2) = R ∧ Below wr.heap.size wr wi ∧ ss = .int .i64 s2 ∧ ks = .int .i64 k)
      case atStart => exact ⟨0, s, Nat.zero_le _, rfl, hs0, by omega, HF.out, Below.refl _ _, rfl, rfl⟩
      case round =>
        obtain ⟨k, s2, hk, hg2, ht0, ht9, hgo, hbi, rfl, rfl⟩ := hrel
        have HG2 := Lib.hid hg2
        have k2 := (k0.next hbw).next hbi
        have c1 := (hbi.cell (p := ⟨b, _, none⟩) hb').trans c0
        have hb2' := Nat.lt_of_lt_of_le hb' hbi.size
        clear hg2
        by_cases hlt2 : k < xs.length
        · have hlk : k < xs[i].length := by rw [HL.out]; exact hlt2
          rw [rowS_step _ _ k hlk] at hgo
          have hnn := HRow.out _ (List.getElem_mem hlk)
          have hpi : i < ps.length := by rw [HN.out]; exact hlt
          have hpk : k < ps.length := by rw [HN.out]; exact hlt2
          have vi := HPl.out i hpi
          have vk := HPl.out k hpk
          rw [wF_eq x ps i k hpi hpk] at hgo
          have hwb := waitV_bd x h ps[i] ps[k]
          have hm := mul_bd hnn (show 0 ≤ waitV x ps[i] ps[k] ∧ waitV x ps[i] ps[k] ≤ 200 by omega)
          obtain ⟨hm0, hm9⟩ := hm
          obtain ⟨hwb1, hwb2⟩ := hwb
          obtain ⟨b2, off2, hA2, hb2, d0⟩ := (rr.below hbi).at1 (f := fun x : Int => .int .i64 x) hlk
          obtain ⟨b3, off3, hA3, hb3, e0⟩ := (ry.below (bnext hB0 (bnext hbw hbi))).at1 (f := fun x : Int => .int .i64 x) hpi
          obtain ⟨b4, off4, hA4, hb4, e1⟩ := (ry.below (bnext hB0 (bnext hbw hbi))).at1 (f := fun x : Int => .int .i64 x) hpk
          rw [hA3] at hA4
          simp only [Option.some.injEq, Addr.mk.injEq, and_true] at hA4
          obtain ⟨rfl, rfl⟩ := hA4
          subst hA2
          subst hA3
          have i1 : (0 : Int) ≤ (i : Int) := by omega
          have i2 : (i : Int) < (xs.length : Int) := by omega
          have i3 : (0 : Int) ≤ (k : Int) := by omega
          have i4 : (k : Int) < (xs[i].length : Int) := by omega
          have i5 : (k : Int) < (xs.length : Int) := by omega
          obtain ⟨n, hnq⟩ : ∃ n, xs[i][k] = n := ⟨_, rfl⟩
          rw [hnq] at hgo hnn d0 hm0 hm9
          clear hnq
          have HF2 := Lib.hid hgo
          have wm : IntKind.i64.wrap (n * waitV x ps[i] ps[k]) = n * waitV x ps[i] ps[k] := IntWalk.i64_in _ (by omega)
          have wm2 : IntKind.i64.wrap (s2 + n * waitV x ps[i] ps[k]) = s2 + n * waitV x ps[i] ps[k] := IntWalk.i64_in _ (by omega)
          clear hgo
          generalize ps[i] = pi at *
          generalize ps[k] = pk at *
          go_wp2_with fail
          go_region_held3 (fun w' => (w'.cell? ⟨w.heap.size, 0, none⟩ = some (.int .i64 x.1) ∧ w'.cell? ⟨w.heap.size, 1, none⟩ = some (.int .i64 x.2.1) ∧ w'.cell? ⟨w.heap.size, 2, none⟩ = some (.int .i64 x.2.2.1) ∧ w'.cell? ⟨w.heap.size, 3, none⟩ = some (.int .i64 x.2.2.2.1) ∧ w'.cell? ⟨w.heap.size, 4, none⟩ = some (.int .i64 x.2.2.2.2)) ∧ w'.cell? ⟨b3, off3 + i, none⟩ = some (.int .i64 pi) ∧ w'.cell? ⟨b3, off3 + k, none⟩ = some (.int .i64 pk)) (first | exact ⟨k2.2, e0, e1⟩ | exact ⟨(k2.next (bundrew hb5)).2, (hb5.cell (p := ⟨b3, _, none⟩) hb3).trans e0, (hb5.cell (p := ⟨b3, _, none⟩) hb3).trans e1⟩) (first | (go_at_call 140; refine (waits_any x h pi pk vi vk _).mono ?_; rintro e w5 ⟨rfl, hb5⟩))
          have hb6 := bundrew hb5
          go_wp2_with fail
          go_roundg (xs.length - (k + 1))
          case measure => rw [HG2.out]; omega
          case rel => exact ⟨k + 1, s2 + n * waitV x pi pk, by omega, rfl, by omega, by omega, HF2.out, bnext hbi hb6, by go_num, by go_num⟩
        · have hlk : ¬ k < xs[i].length := by rw [HL.out]; exact hlt2
          have hlk2 : xs[i].length ≤ k := by omega
          rw [List.drop_of_length_le hlk2] at hgo
          have HF2 := Lib.hid (show allS (wF x ps) (xs.drop (i + 1)) (i + 1) s2 = R from hgo)
          clear hgo
          go_wp2_with fail
          go_roundg (xs.length - (i + 1))
          case measure => rw [HG.out]; omega
          case rel => exact ⟨i + 1, s2, by omega, rfl, ht0, by omega, HF2.out, bnext hbw hbi, rfl, by go_num⟩
    · have hfin : s = R := by
        rw [List.drop_of_length_le (by omega)] at hgo; exact hgo
      have HF := Lib.hid hfin
      clear hfin hgo
      go_wp2_with fail
      go_ret
      exact ⟨ret_int HF.out, bnext hB0 hbw⟩
end Go.Proofs.Yteepcnfpdmmnhaa
