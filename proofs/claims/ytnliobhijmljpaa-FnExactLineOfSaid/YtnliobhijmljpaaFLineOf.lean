/-
  FLineOf: a line that has letters in whole spaces only: LineOf, spec and impl.
-/
import Derived.Test.YtnliobhijmljpaaFCarriage
import Derived.Test.YtnliobhijmljpaaFStruck
import Derived.Test.YtnliobhijmljpaaFSwap
import Derived.Test.YtnliobhijmljpaaAppAt
import Derived.Laws.BytesArg
namespace Go.Proofs.Ytnliobhijmljpaa
open Go.RowKit
set_option linter.unusedVariables false
attribute [local go_sem ↓] Go.wp_at_zero Go.wp_at_succ
abbrev encB : Int → List Value := fun x => [.int .u8 x]
def padL (l : List Int) (p : Nat) : List Int := l ++ List.replicate (p + 1 - l.length) 32
def byte0 (s : ByteArray) : Int := ((s.data.toList.getD 0 0).toNat : Int)
def lineGo (x : TCarriage) : List TStruck → List Int → ByteArray × Int
  | [], l => (strOfNums l, 0)
  | s :: ss, l => if s.1 - x.1 < 0 ∨ (s.1 - x.1) % 2 ≠ 0 then (⟨#[]⟩, 8)
    else if (padL l ((s.1 - x.1) / 2).toNat).getD ((s.1 - x.1) / 2).toNat 0 ≠ 32 then (⟨#[]⟩, 9)
    else lineGo x ss ((padL l ((s.1 - x.1) / 2).toNat).set ((s.1 - x.1) / 2).toNat (byte0 s.2))
noncomputable instance decStrucks2 (xs : List TStruck) : Decidable (StrucksOk xs) := Classical.propDecidable _
noncomputable def M_LineOf (x : TCarriage) (xs : List TStruck) : ByteArray × Int := if CarriageOk x then (if StrucksOk xs then lineGo x xs [] else (⟨#[]⟩, 1)) else (⟨#[]⟩, 1)
theorem padL_len (l : List Int) (p : Nat) : p < (padL l p).length := by unfold padL; simp; omega
theorem padL_le (l : List Int) (p n : Nat) (h1 : l.length ≤ n) (h2 : p + 1 ≤ n) : (padL l p).length ≤ n := by unfold padL; simp; omega
theorem padL_step (l : List Int) (p : Nat) (h : l.length ≤ p) : padL (l ++ [32]) p = padL l p := by
  unfold padL
  rw [List.length_append, List.length_cons, List.length_nil, show p + 1 - l.length = (p + 1 - (l.length + (0 + 1))) + 1 by omega, List.replicate_succ, List.append_assoc]; rfl
theorem padL_done (l : List Int) (p : Nat) (h : p < l.length) : padL l p = l := by unfold padL; rw [show p + 1 - l.length = 0 by omega]; simp
theorem line_step (x : TCarriage) (xs : List TStruck) (i : Nat) (h : i < xs.length) (l : List Int) :
    lineGo x (xs.drop i) l = (if xs[i].1 - x.1 < 0 ∨ (xs[i].1 - x.1) % 2 ≠ 0 then ((⟨#[]⟩ : ByteArray), (8 : Int))
    else if (padL l ((xs[i].1 - x.1) / 2).toNat).getD ((xs[i].1 - x.1) / 2).toNat 0 ≠ 32 then (⟨#[]⟩, 9)
    else lineGo x (xs.drop (i + 1)) ((padL l ((xs[i].1 - x.1) / 2).toNat).set ((xs[i].1 - x.1) / 2).toNat (byte0 xs[i].2))) := by
  rw [List.drop_eq_getElem_cons h]
  show lineGo x (xs[i] :: xs.drop (i + 1)) l = _
  rw [lineGo]
theorem byte0_eq (s : ByteArray) (h : 0 < s.size) : byte0 s = (s[0].toNat : Int) := by
  unfold byte0
  rw [List.getD_eq_getElem?_getD, List.getElem?_eq_getElem (by simpa using h)]; rfl
def BytesOk (l : List Int) : Prop := l.length ≤ 151 ∧ ∀ j (h : j < l.length), 0 ≤ l[j] ∧ l[j] ≤ 255
theorem BytesOk.app {l : List Int} (h : BytesOk l) (hl : l.length ≤ 150) : BytesOk (l ++ [32]) := by
  refine ⟨by simp; omega, fun j hj => ?_⟩
  rw [List.length_append] at hj
  simp only [List.length_cons, List.length_nil] at hj
  rcases Nat.lt_or_ge j l.length with h1 | h1
  · rw [List.getElem_append_left h1]; exact h.2 j h1
  · have e : j = l.length := by omega
    subst e
    simp
theorem BytesOk.set {l : List Int} (h : BytesOk l) (p : Nat) (v : Int) (hv : 0 ≤ v ∧ v ≤ 255) : BytesOk (l.set p v) := by
  refine ⟨by rw [List.length_set]; exact h.1, fun j hj => ?_⟩
  rw [List.length_set] at hj
  rw [List.getElem_set]
  split
  · exact hv
  · exact h.2 j hj
theorem AtCarriage.nextB {B : Nat} {w w' : World} {b : Nat} {x : TCarriage} (h : AtCarriage w b x) (hb : Below B w w') (hB : b < B) : AtCarriage w' b x :=
  ⟨Nat.lt_of_lt_of_le h.1 hb.size, (hb.cell (p := ⟨b, 0, none⟩) hB).trans h.2.1, (hb.cell (p := ⟨b, 1, none⟩) hB).trans h.2.2.1, (hb.cell (p := ⟨b, 2, none⟩) hB).trans h.2.2.2⟩
theorem info_u8 : (Try.prog.info? 5).map (fun i => (i.zero, i.size, i.bytes)) = some (some (.int .u8 0), 1, 1) := by kernel_rfl
theorem conv_own {P : Program} {w : World} {base : Nat} {E : TypeId} {v : Value} {l : List Int} (h : Own w base E encB 1 v l) (src e : TypeId) (hs : P.underlying src = some (.slice e)) (he : P.underlying e = some (.int .u8)) (dst : TypeId) (hd : P.underlying dst = some .string) :
    (convert src dst v).run P w = .ok (.string (strOfNums l)) w := by
  rcases Nat.eq_zero_or_pos l.length with h0 | h0
  · have : l = [] := List.eq_nil_of_length_eq_zero h0
    subst this
    rcases h.2.2 with ⟨rfl, _⟩ | ⟨g, cap, cs, rfl, _⟩
    · exact run_convert_bytes_nil w src e hs he _ _ dst hd
    · exact run_convert_bytes_arg w src e hs he g 0 _ cap [] rfl (fun i hi => absurd hi (by simp)) dst hd
  · obtain ⟨g, cap, rfl⟩ := own_some h h0
    refine run_convert_bytes_arg w src e hs he g 0 _ cap l rfl (fun i hi => ?_) dst hd
    have := h.cell (k := i) (j := 0) hi rfl
    rw [List.getD_eq_getElem?_getD, List.getElem?_eq_getElem hi]
    simpa using this
set_option maxHeartbeats 6400000 in
set_option maxRecDepth 10000 in
theorem spec_LineOf_any (x : TCarriage) (hx : okCarriage x) (A : Option Addr) (c : Nat) (xs : List TStruck) (hxl : xs.length ≤ 1048576) (hk : ∀ n ∈ xs, KStruck n) (w : World) (rx : Row w A encStruck 2 xs) :
    Calls Try.prog 19 #[.agg #[.int .i64 x.1, .int .i64 x.2.1, .int .i64 x.2.2], .slice A xs.length c] w (RSI (M_LineOf x xs) w) := by
  obtain ⟨i0, hi0, hz, hsz, hby⟩ := info_parts info_u8
  obtain ⟨W0, hW0⟩ : ∃ W0, W0 = w.alloc (.cells #[.int .i64 x.1, .int .i64 x.2.1, .int .i64 x.2.2] 44) := ⟨_, rfl⟩
  have hB0 : Below w.heap.size w W0 := by rw [hW0]; exact bal (Below.refl _ _) _
  have k0 : AtCarriage W0 w.heap.size x := by rw [hW0]; exact AtCarriage.new w _ x
  have HW := Lib.hid hW0
  clear hW0
  rcases ff2 (CarriageOk x) (StrucksOk xs) with h | ⟨h, h2⟩ | ⟨h, h2⟩
  · have HM := Lib.hid (show M_LineOf x xs = (⟨#[]⟩, 1) by unfold M_LineOf; rw [if_neg h])
    go_enter Try.func19, Try.ntmps19
    go_wp2_with fail
    rw [← HW.out]
    refine (RBb.no (l04Ok_any x hx _) h).mono ?_; rintro e w1 ⟨rfl, hb1⟩
    go_wp2_with fail
    go_ret2
    exact RSI.mk HM.out.symm (bnext hB0 hb1)
  · have HM := Lib.hid (show M_LineOf x xs = (⟨#[]⟩, 1) by unfold M_LineOf; rw [if_pos h, if_neg h2])
    go_enter Try.func19, Try.ntmps19
    go_wp2_with fail
    rw [← HW.out]
    refine (RBb.yes (l04Ok_any x hx _) h).mono ?_; rintro e w1 ⟨rfl, hb1⟩
    go_wp2_with (go_at_call 45; refine (RBb.no (l04Struck_any _ _ xs hxl hk _ (rx.below (bnext hB0 hb1))) h2).mono ?_; rintro e w2 ⟨rfl, hb2⟩)
    go_ret2
    exact RSI.mk HM.out.symm (bnext (bnext hB0 hb1) hb2)
  obtain ⟨R, hR⟩ : ∃ R, R = lineGo x xs [] := ⟨_, rfl⟩
  have HM := Lib.hid (show M_LineOf x xs = R by unfold M_LineOf; rw [if_pos h, if_pos h2, hR])
  have HR := Lib.hid hR
  clear hR
  have HS := Lib.hid h2.2
  have hl200 := h2.1
  have HC := Lib.hid h
  obtain ⟨q1, q2, q3, q4, q5, q6, q7⟩ := h
  go_enter Try.func19, Try.ntmps19
  go_wp2_with fail
  rw [← HW.out]
  refine (RBb.yes (l04Ok_any x hx _) HC.out).mono ?_; rintro e w1 ⟨rfl, hb1⟩
  have k1 := k0.next hb1
  have hB1 := bnext hB0 hb1
  go_wp2_with (go_at_call 45; refine (RBb.yes (l04Struck_any _ _ xs hxl hk _ (rx.below hB1)) h2).mono ?_; rintro e w2 ⟨rfl, hb2⟩; have k2 := k1.next hb2; have hB2 := bnext hB1 hb2; have o1 := Own.lit0 (e := encB) (s := 1) w2 (fun _ => rfl) w2.heap.size 5 (Nat.le_refl _); have hBl : Below w2.heap.size w2 (w2.alloc (.cells #[] 5)) := bal (Below.refl _ _) _)
  go_loopg [6, 7] xs.length (fun g vs is wr => ∃ (i : Nat) (l : List Int), i ≤ xs.length ∧ g = xs.length - i ∧ BytesOk l ∧ lineGo x (xs.drop i) l = R ∧ Own wr w2.heap.size 5 encB 1 vs l ∧ Below w2.heap.size w2 wr ∧ is = .int .i64 i)
  case atStart => exact ⟨0, [], Nat.zero_le _, rfl, ⟨by simp, fun j h => absurd h (by simp)⟩, HR.out.symm, o1, hBl, rfl⟩
  case round =>
    obtain ⟨i, l, hi, hg, hby2, hgo, hown, hbw, rfl⟩ := hrel
    have HG := Lib.hid hg
    have HBy := Lib.hid hby2
    clear hg hby2
    have k3 := k2.nextB hbw k2.1
    by_cases hlt : i < xs.length
    · rw [line_step x xs i hlt] at hgo
      have hok := HS.out _ (List.getElem_mem hlt)
      obtain ⟨b, off, hA, hb, c0, c1⟩ := (rx.below hB2).at2 (f := fun x : TStruck => .int .i64 x.1) (g := fun x : TStruck => .string x.2) hlt
      subst hA
      generalize xs[i] = st at *
      obtain ⟨p1, p2⟩ := st
      simp only at c0 c1 hgo
      have hbb := Nat.lt_of_lt_of_le hb hbw.size
      have d0 := (hbw.cell (p := ⟨b, _, none⟩) hb).trans c0
      have d1 := (hbw.cell (p := ⟨b, _, none⟩) hb).trans c1
      have C0 := Lib.hid c0
      have C1 := Lib.hid c1
      clear c0 c1
      obtain ⟨⟨hp0, hp9⟩, hlet⟩ : (0 ≤ p1 ∧ p1 ≤ 300) ∧ LetterOk p2 := hok
      have i1 : (0 : Int) ≤ (i : Int) := by omega
      have i2 : (i : Int) < (xs.length : Int) := by omega
      have zw : IntKind.i64.wrap (p1 - x.1) = p1 - x.1 := IntWalk.i64_in _ (by omega)
      obtain ⟨a, ha⟩ : ∃ a, p1 - x.1 = a := ⟨_, rfl⟩
      have ha0 : a ≤ 300 := by omega
      have ha9 : -300 ≤ a := by omega
      rw [ha] at hgo
      have HLet := Lib.hid hlet
      have HZ := Lib.hid ha
      rw [ha] at zw
      clear hlet ha
      rcases (by omega : a < 0 ∨ (0 ≤ a ∧ a % 2 ≠ 0) ∨ (0 ≤ a ∧ a % 2 = 0)) with hc | ⟨hc, hc2⟩ | ⟨hc, hc2⟩
      · have hd : decide (a < 0) = true := by simp; omega
        rw [if_pos (.inl hc)] at hgo
        have HF := Lib.hid hgo
        have zw2 := HZ.out
        clear hgo
        go_wp2_with (go_quiet (fail))
        go_ret2
        exact RSI.mk (by rw [HM.out, HF.out]) (bnext hB2 (bdrewN hbw _))
      · have hd : decide (a < 0) = false := by simp; omega
        have ht : a.tmod 2 = a % 2 := Int.tmod_eq_emod_of_nonneg hc
        have te : (a % 2 != 0) = true := by rw [bne_iff_ne]; exact hc2
        rw [if_pos (.inr hc2)] at hgo
        have HF := Lib.hid hgo
        have HC2 := Lib.hid hc2
        have zw2 := HZ.out
        clear hgo hc2
        go_wp2_with (go_quiet (fail))
        go_ret2
        exact RSI.mk (by rw [HM.out, HF.out]) (bnext hB2 (bdrewN hbw _))
      · have hd : decide (a < 0) = false := by simp; omega
        have ht : a.tmod 2 = a % 2 := Int.tmod_eq_emod_of_nonneg hc
        have te : (a % 2 != 0) = false := by rw [hc2]; rfl
        rw [if_neg (fun q => q.elim (fun q => by omega) (fun q => q hc2))] at hgo
        have HC2 := Lib.hid hc2
        obtain ⟨p, hp⟩ : ∃ p : Nat, a / 2 = (p : Int) := ⟨(a / 2).toNat, by omega⟩
        have hq : a.tdiv 2 = (p : Int) := by rw [Int.tdiv_eq_ediv_of_nonneg hc]; exact hp
        have hp150 : p ≤ 150 := by omega
        rw [hp, Int.toNat_natCast] at hgo
        have HP := Lib.hid hp
        clear hp hc2
        obtain ⟨Pl, hPl⟩ : ∃ Pl, Pl = padL l p := ⟨_, rfl⟩
        rw [← hPl] at hgo
        have hPlen : p < Pl.length := by rw [hPl]; exact padL_len l p
        have HPl := Lib.hid hPl
        have HGo := Lib.hid hgo
        clear hgo hPl
        have hz1 : 0 < p2.size := by have := HLet.out.1; omega
        have hb0 := byte0_eq p2 hz1
        have hcc := UInt8.toNat_lt p2[0]
        have HB0 := Lib.hid hb0
        have zw2 := HZ.out
        clear hb0
        go_wp2_with (go_quiet (fail))
        obtain ⟨W4, hW4⟩ : ∃ W4, W4 = wr.drewN nq := ⟨_, rfl⟩
        have hbq : Below wr.heap.size wr W4 := by rw [hW4]; exact (bdrewN (Below.refl wr.heap.size wr) nq)
        have hb4 : Below w2.heap.size w2 W4 := hbw.trans (hbq.mono hbw.size)
        have o4 := hown.below hbq
        have k4 := k3.nextB hbq k3.1
        rw [← hW4]
        clear hW4 hbq
        go_loopg [6] (p + 1 - l.length) (fun g2 vs wi => ∃ (l2 : List Int), g2 = p + 1 - l2.length ∧ BytesOk l2 ∧ padL l2 p = Pl ∧ Own wi w2.heap.size 5 encB 1 vs l2 ∧ Below w2.heap.size w2 wi)
        case atStart => exact ⟨l, rfl, HBy.out, HPl.out.symm, o4, hb4⟩
        case round =>
          obtain ⟨l2, hg2, hby5, hpd, hown5, hb5⟩ := hrel
          obtain ⟨A5, c5, rfl, _, _⟩ := hown5.form
          have HG2 := Lib.hid hg2
          have HBy5 := Lib.hid hby5
          have HPd := Lib.hid hpd
          have hl151 := hby5.1
          clear hg2 hby5 hpd
          by_cases hle : l2.length ≤ p
          · have hdl : decide ((l2.length : Int) ≤ (p : Int)) = true := by simp; omega
            have hx5 := bal (Below.refl wr.heap.size wr) (.cells #[.int .u8 32] 5)
            have o5 := hown5.below hx5
            have hb6 := hb5.trans (hx5.mono hb5.size)
            go_wp2_with (at_builtin; refine app_own rfl _ _ 83 rfl w2.heap.size 5 i0 _ 1 1 Try.underlying83 hi0 hz hsz hby rfl (by decide) _ l2 rfl o5 ⟨_, 0, none⟩ 1 (32 : Int) rfl (cell_one_new _ _ _) (by simp [Value.oneCell']) (by unfold maxLen; omega) (by omega) hb6.size ?_; intro v6 w6 hown6 hg6)
            go_roundg (p + 1 - (l2.length + 1))
            case measure => rw [HG2.out]; omega
            case rel =>
              have hb7 := below_own (B := w2.heap.size) o5 hg6 (Nat.le_refl _) hb6.size
              exact ⟨l2 ++ [32], by rw [List.length_append]; rfl, HBy5.out.app (by omega), (padL_step l2 p hle).trans HPd.out, hown6, hb6.trans hb7⟩
          · have hdl : decide ((l2.length : Int) ≤ (p : Int)) = false := by simp; omega
            have hfin : l2 = Pl := (padL_done l2 p (by omega)).symm.trans HPd.out
            subst hfin
            obtain ⟨g, cap, hv⟩ := own_some hown5 (by omega)
            simp only [Value.slice.injEq] at hv
            obtain ⟨rfl, _, rfl⟩ := hv
            have hgb := hown5.blk.1
            have e0 : wr.cell? ⟨g, p, none⟩ = some (.int .u8 l2[p]) := by have := hown5.cell (k := p) (j := 0) hPlen rfl; simpa using this
            have z0 := hown5.frozen p
            have i3 : (0 : Int) ≤ (p : Int) := by omega
            have i4 : (p : Int) < (l2.length : Int) := by omega
            have hgo2 := HGo.out
            have hgd : l2.getD p 0 = l2[p] := by rw [List.getD_eq_getElem?_getD, List.getElem?_eq_getElem hPlen]; rfl
            rw [hgd] at hgo2
            clear hgd
            by_cases hx32 : l2[p] = 32
            · have te2 : (l2[p] != 32) = false := by rw [hx32]; rfl
              rw [if_neg (fun q => q hx32)] at hgo2
              have HF := Lib.hid hgo2
              have hz2 : (0 : Int) < (p2.size : Int) := by omega
              have o7 := hown5.store1 (f := fun x : Int => .int .u8 x) hPlen (p2[0].toNat : Int)
              have O7 := Lib.hid o7
              have d7 := (hb5.cell (p := ⟨b, _, none⟩) hb).trans C1.out
              clear hgo2 hx32 o7
              go_wp2_with fail
              go_roundg (xs.length - (i + 1))
              case measure => rw [HG.out]; omega
              case rel => exact ⟨i + 1, l2.set p (byte0 p2), by omega, rfl, HBy5.out.set p _ (by rw [HB0.out]; omega), HF.out, by rw [HB0.out]; exact O7.out, hb5.setCell (p := ⟨g, p, none⟩) hgb _, by go_num⟩
            · have te2 : (l2[p] != 32) = true := by rw [bne_iff_ne]; exact hx32
              rw [if_pos hx32] at hgo2
              have HF := Lib.hid hgo2
              have HX := Lib.hid hx32
              clear hgo2 hx32
              go_wp2_with fail
              go_ret2
              exact RSI.mk (by rw [HM.out, HF.out]) (bnext hB2 hb5)
    · have hfin : (strOfNums l, (0 : Int)) = R := by
        rw [List.drop_of_length_le (by omega)] at hgo; exact hgo
      have HF := Lib.hid hfin
      have hcv := fun dst hd => conv_own hown 83 5 Try.underlying83 Try.underlying5 dst hd
      clear hfin hgo
      go_wp2_with fail
      go_ret2
      exact RSI.mk (by rw [HM.out, HF.out]) (bnext hB2 hbw)
set_option maxHeartbeats 6400000 in
set_option maxRecDepth 10000 in
theorem impl_LineOf_any (x : TCarriage) (hx : okCarriage x) (A : Option Addr) (c : Nat) (xs : List TStruck) (hxl : xs.length ≤ 1048576) (hk : ∀ n ∈ xs, KStruck n) (w : World) (rx : Row w A encStruck 2 xs) :
    Calls Try.prog 22 #[.agg #[.int .i64 x.1, .int .i64 x.2.1, .int .i64 x.2.2], .slice A xs.length c] w (RSI (M_LineOf x xs) w) := by
  obtain ⟨i0, hi0, hz, hsz, hby⟩ := info_parts info_u8
  obtain ⟨W0, hW0⟩ : ∃ W0, W0 = w.alloc (.cells #[.int .i64 x.1, .int .i64 x.2.1, .int .i64 x.2.2] 44) := ⟨_, rfl⟩
  have hB0 : Below w.heap.size w W0 := by rw [hW0]; exact bal (Below.refl _ _) _
  have k0 : AtCarriage W0 w.heap.size x := by rw [hW0]; exact AtCarriage.new w _ x
  have HW := Lib.hid hW0
  clear hW0
  rcases ff2 (CarriageOk x) (StrucksOk xs) with h | ⟨h, h2⟩ | ⟨h, h2⟩
  · have HM := Lib.hid (show M_LineOf x xs = (⟨#[]⟩, 1) by unfold M_LineOf; rw [if_neg h])
    go_enter Try.func22, Try.ntmps22
    go_wp2_with fail
    rw [← HW.out]
    refine (RBb.no (impl_ValidCarriage_any x hx _) h).mono ?_; rintro e w1 ⟨rfl, hb1⟩
    go_wp2_with fail
    go_ret2
    exact RSI.mk HM.out.symm (bnext hB0 hb1)
  · have HM := Lib.hid (show M_LineOf x xs = (⟨#[]⟩, 1) by unfold M_LineOf; rw [if_pos h, if_neg h2])
    go_enter Try.func22, Try.ntmps22
    go_wp2_with fail
    rw [← HW.out]
    refine (RBb.yes (impl_ValidCarriage_any x hx _) h).mono ?_; rintro e w1 ⟨rfl, hb1⟩
    go_wp2_with (go_at_call 48; refine (RBb.no (validStruck_any _ _ xs hxl hk _ (rx.below (bnext hB0 hb1))) h2).mono ?_; rintro e w2 ⟨rfl, hb2⟩)
    go_ret2
    exact RSI.mk HM.out.symm (bnext (bnext hB0 hb1) hb2)
  obtain ⟨R, hR⟩ : ∃ R, R = lineGo x xs [] := ⟨_, rfl⟩
  have HM := Lib.hid (show M_LineOf x xs = R by unfold M_LineOf; rw [if_pos h, if_pos h2, hR])
  have HR := Lib.hid hR
  clear hR
  have HS := Lib.hid h2.2
  have hl200 := h2.1
  have HC := Lib.hid h
  obtain ⟨q1, q2, q3, q4, q5, q6, q7⟩ := h
  go_enter Try.func22, Try.ntmps22
  go_wp2_with fail
  rw [← HW.out]
  refine (RBb.yes (impl_ValidCarriage_any x hx _) HC.out).mono ?_; rintro e w1 ⟨rfl, hb1⟩
  have k1 := k0.next hb1
  have hB1 := bnext hB0 hb1
  go_wp2_with (go_at_call 48; refine (RBb.yes (validStruck_any _ _ xs hxl hk _ (rx.below hB1)) h2).mono ?_; rintro e w2 ⟨rfl, hb2⟩; have k2 := k1.next hb2; have hB2 := bnext hB1 hb2; have o1 := Own.lit0 (e := encB) (s := 1) w2 (fun _ => rfl) w2.heap.size 5 (Nat.le_refl _); have hBl : Below w2.heap.size w2 (w2.alloc (.cells #[] 5)) := bal (Below.refl _ _) _)
  go_loopg [6, 22] xs.length (fun g vs is wr => ∃ (i : Nat) (l : List Int), i ≤ xs.length ∧ g = xs.length - i ∧ BytesOk l ∧ lineGo x (xs.drop i) l = R ∧ Own wr w2.heap.size 5 encB 1 vs l ∧ Below w2.heap.size w2 wr ∧ is = .int .i64 i)
  case atStart => exact ⟨0, [], Nat.zero_le _, rfl, ⟨by simp, fun j h => absurd h (by simp)⟩, HR.out.symm, o1, hBl, rfl⟩
  case round =>
    obtain ⟨i, l, hi, hg, hby2, hgo, hown, hbw, rfl⟩ := hrel
    have HG := Lib.hid hg
    have HBy := Lib.hid hby2
    clear hg hby2
    have k3 := k2.nextB hbw k2.1
    by_cases hlt : i < xs.length
    · rw [line_step x xs i hlt] at hgo
      have hok := HS.out _ (List.getElem_mem hlt)
      obtain ⟨b, off, hA, hb, c0, c1⟩ := (rx.below hB2).at2 (f := fun x : TStruck => .int .i64 x.1) (g := fun x : TStruck => .string x.2) hlt
      subst hA
      generalize xs[i] = st at *
      obtain ⟨p1, p2⟩ := st
      simp only at c0 c1 hgo
      have hbb := Nat.lt_of_lt_of_le hb hbw.size
      have d0 := (hbw.cell (p := ⟨b, _, none⟩) hb).trans c0
      have d1 := (hbw.cell (p := ⟨b, _, none⟩) hb).trans c1
      have C0 := Lib.hid c0
      have C1 := Lib.hid c1
      clear c0 c1
      obtain ⟨⟨hp0, hp9⟩, hlet⟩ : (0 ≤ p1 ∧ p1 ≤ 300) ∧ LetterOk p2 := hok
      have i1 : (0 : Int) ≤ (i : Int) := by omega
      have i2 : (i : Int) < (xs.length : Int) := by omega
      have zw : IntKind.i64.wrap (p1 - x.1) = p1 - x.1 := IntWalk.i64_in _ (by omega)
      obtain ⟨a, ha⟩ : ∃ a, p1 - x.1 = a := ⟨_, rfl⟩
      have ha0 : a ≤ 300 := by omega
      have ha9 : -300 ≤ a := by omega
      rw [ha] at hgo
      have HLet := Lib.hid hlet
      have HZ := Lib.hid ha
      rw [ha] at zw
      clear hlet ha
      rcases (by omega : a < 0 ∨ (0 ≤ a ∧ a % 2 ≠ 0) ∨ (0 ≤ a ∧ a % 2 = 0)) with hc | ⟨hc, hc2⟩ | ⟨hc, hc2⟩
      · have hd : decide (a < 0) = true := by simp; omega
        rw [if_pos (.inl hc)] at hgo
        have HF := Lib.hid hgo
        have zw2 := HZ.out
        clear hgo
        go_wp2_with fail
        go_ret2
        exact RSI.mk (by rw [HM.out, HF.out]) (bal (bnext hB2 hbw) _)
      · have hd : decide (a < 0) = false := by simp; omega
        have ht : a.tmod 2 = a % 2 := Int.tmod_eq_emod_of_nonneg hc
        have te : (a % 2 != 0) = true := by rw [bne_iff_ne]; exact hc2
        rw [if_pos (.inr hc2)] at hgo
        have HF := Lib.hid hgo
        have HC2 := Lib.hid hc2
        have zw2 := HZ.out
        clear hgo hc2
        go_wp2_with fail
        go_ret2
        exact RSI.mk (by rw [HM.out, HF.out]) (bal (bnext hB2 hbw) _)
      · have hd : decide (a < 0) = false := by simp; omega
        have ht : a.tmod 2 = a % 2 := Int.tmod_eq_emod_of_nonneg hc
        have te : (a % 2 != 0) = false := by rw [hc2]; rfl
        rw [if_neg (fun q => q.elim (fun q => by omega) (fun q => q hc2))] at hgo
        have HC2 := Lib.hid hc2
        obtain ⟨p, hp⟩ : ∃ p : Nat, a / 2 = (p : Int) := ⟨(a / 2).toNat, by omega⟩
        have hq : a.tdiv 2 = (p : Int) := by rw [Int.tdiv_eq_ediv_of_nonneg hc]; exact hp
        have hp150 : p ≤ 150 := by omega
        rw [hp, Int.toNat_natCast] at hgo
        have HP := Lib.hid hp
        clear hp hc2
        obtain ⟨Pl, hPl⟩ : ∃ Pl, Pl = padL l p := ⟨_, rfl⟩
        rw [← hPl] at hgo
        have hPlen : p < Pl.length := by rw [hPl]; exact padL_len l p
        have HPl := Lib.hid hPl
        have HGo := Lib.hid hgo
        clear hgo hPl
        have hz1 : 0 < p2.size := by have := HLet.out.1; omega
        have hb0 := byte0_eq p2 hz1
        have hcc := UInt8.toNat_lt p2[0]
        have HB0 := Lib.hid hb0
        have zw2 := HZ.out
        clear hb0
        obtain ⟨W4, hW4⟩ : ∃ W4, W4 = wr.alloc (.cells #[.int .i64 p1, .string p2] 84) := ⟨_, rfl⟩
        have hbq : Below wr.heap.size wr W4 := by rw [hW4]; exact (bal (Below.refl wr.heap.size wr) (.cells #[.int .i64 p1, .string p2] 84))
        have hb4 : Below w2.heap.size w2 W4 := hbw.trans (hbq.mono hbw.size)
        have o4 := hown.below hbq
        have k4 := k3.nextB hbq k3.1
        obtain ⟨cb, hcb⟩ : ∃ cb, cb = wr.heap.size := ⟨_, rfl⟩
        have hcbl : cb < W4.heap.size := by rw [hW4, hcb]; simp
        have hS : W4.cell? ⟨cb, 1, none⟩ = some (.string p2) := by rw [hW4, hcb]; simp [go_sem]
        have hAp : Apart u6 cb := fun g hg => by have := (hown.2.lt g hg).2; omega
        go_wp2_with fail
        rw [← hW4, ← hcb]
        clear hW4 hcb hbq
        go_loopg [6] (p + 1 - l.length) (fun g2 vs wi => ∃ (l2 : List Int), g2 = p + 1 - l2.length ∧ BytesOk l2 ∧ padL l2 p = Pl ∧ Own wi w2.heap.size 5 encB 1 vs l2 ∧ Below w2.heap.size w2 wi ∧ cb < wi.heap.size ∧ wi.cell? ⟨cb, 1, none⟩ = some (.string p2) ∧ Apart vs cb)
        case atStart => exact ⟨l, rfl, HBy.out, HPl.out.symm, o4, hb4, hcbl, hS, hAp⟩
        case round =>
          obtain ⟨l2, hg2, hby5, hpd, hown5, hb5, hcbl5, hS5, hAp5⟩ := hrel
          obtain ⟨A5, c5, rfl, _, _⟩ := hown5.form
          have HG2 := Lib.hid hg2
          have HBy5 := Lib.hid hby5
          have HPd := Lib.hid hpd
          have hl151 := hby5.1
          clear hg2 hby5 hpd
          by_cases hle : l2.length ≤ p
          · have hdl : decide ((l2.length : Int) ≤ (p : Int)) = true := by simp; omega
            have hx5 := bal (Below.refl wr.heap.size wr) (.cells #[.int .u8 32] 5)
            have o5 := hown5.below hx5
            have hb6 := hb5.trans (hx5.mono hb5.size)
            go_wp2_with (at_builtin; refine app_own_at rfl _ _ 83 rfl w2.heap.size 5 i0 _ 1 1 Try.underlying83 hi0 hz hsz hby rfl (by decide) _ l2 rfl o5 ⟨_, 0, none⟩ 1 (32 : Int) rfl (cell_one_new _ _ _) (by simp [Value.oneCell']) (by unfold maxLen; omega) (by omega) hb6.size ?_; intro v6 w6 hown6 hg6 hat6)
            go_roundg (p + 1 - (l2.length + 1))
            case measure => rw [HG2.out]; omega
            case rel =>
              have hb7 := below_own (B := w2.heap.size) o5 hg6 (Nat.le_refl _) hb6.size
              exact ⟨l2 ++ [32], by rw [List.length_append]; rfl, HBy5.out.app (by omega), (padL_step l2 p hle).trans HPd.out, hown6, hb6.trans hb7, Nat.lt_of_lt_of_le (Nat.lt_of_lt_of_le hcbl5 hx5.size) hg6.size, (grown_cell hg6 (Nat.lt_of_lt_of_le hcbl5 hx5.size) hAp5.ne).trans ((hx5.cell (p := ⟨cb, 1, none⟩) hcbl5).trans hS5), hAp5.next (Nat.lt_of_lt_of_le hcbl5 hx5.size) hat6⟩
          · have hdl : decide ((l2.length : Int) ≤ (p : Int)) = false := by simp; omega
            have hfin : l2 = Pl := (padL_done l2 p (by omega)).symm.trans HPd.out
            subst hfin
            obtain ⟨g, cap, hv⟩ := own_some hown5 (by omega)
            simp only [Value.slice.injEq] at hv
            obtain ⟨rfl, _, rfl⟩ := hv
            have hgb := hown5.blk.1
            have e0 : wr.cell? ⟨g, p, none⟩ = some (.int .u8 l2[p]) := by have := hown5.cell (k := p) (j := 0) hPlen rfl; simpa using this
            have z0 := hown5.frozen p
            have i3 : (0 : Int) ≤ (p : Int) := by omega
            have i4 : (p : Int) < (l2.length : Int) := by omega
            have hgo2 := HGo.out
            have hgd : l2.getD p 0 = l2[p] := by rw [List.getD_eq_getElem?_getD, List.getElem?_eq_getElem hPlen]; rfl
            rw [hgd] at hgo2
            clear hgd
            by_cases hx32 : l2[p] = 32
            · have te2 : (l2[p] != 32) = false := by rw [hx32]; rfl
              rw [if_neg (fun q => q hx32)] at hgo2
              have HF := Lib.hid hgo2
              have hz2 : (0 : Int) < (p2.size : Int) := by omega
              have o7 := hown5.store1 (f := fun x : Int => .int .u8 x) hPlen (p2[0].toNat : Int)
              have O7 := Lib.hid o7
              skip
              clear hgo2 hx32 o7
              go_wp2_with fail
              go_roundg (xs.length - (i + 1))
              case measure => rw [HG.out]; omega
              case rel => exact ⟨i + 1, l2.set p (byte0 p2), by omega, rfl, HBy5.out.set p _ (by rw [HB0.out]; omega), HF.out, by rw [HB0.out]; exact O7.out, hb5.setCell (p := ⟨g, p, none⟩) hgb _, by go_num⟩
            · have te2 : (l2[p] != 32) = true := by rw [bne_iff_ne]; exact hx32
              rw [if_pos hx32] at hgo2
              have HF := Lib.hid hgo2
              have HX := Lib.hid hx32
              clear hgo2 hx32
              go_wp2_with fail
              go_ret2
              exact RSI.mk (by rw [HM.out, HF.out]) (bnext hB2 hb5)
    · have hfin : (strOfNums l, (0 : Int)) = R := by
        rw [List.drop_of_length_le (by omega)] at hgo; exact hgo
      have HF := Lib.hid hfin
      have hcv := fun dst hd => conv_own hown 83 5 Try.underlying83 Try.underlying5 dst hd
      clear hfin hgo
      go_wp2_with fail
      go_ret2
      exact RSI.mk (by rw [HM.out, HF.out]) (bnext hB2 hbw)
end Go.Proofs.Ytnliobhijmljpaa
