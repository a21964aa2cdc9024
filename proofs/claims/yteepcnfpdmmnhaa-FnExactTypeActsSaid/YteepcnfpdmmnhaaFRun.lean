/-
  FRun: what a typist's acts do: spec.l04Run, l04Both; TypeActs, BellsOf, LockedAt, spec and impl.
-/
import Derived.Test.YteepcnfpdmmnhaaFRunS
import Derived.Test.YteepcnfpdmmnhaaFRunI
import Derived.Test.YteepcnfpdmmnhaaApps
namespace Go.Proofs.Yteepcnfpdmmnhaa
open Go.RowKit
set_option linter.unusedVariables false
attribute [local go_sem ↓] Go.wp_at_zero Go.wp_at_succ
set_option linter.unusedSimpArgs false
/-- A list of the call's own and two numbers: the given ones; new blocks at most. -/
def RL3 {α : Type} (e0 : α → List Value) (s : Nat) (E : TypeId) (m : List α × Int × Int) (w : World) (e : Ending) (w' : World) : Prop :=
  ∃ (v : Value) (ys : List α) (n1 n2 : Int), e = .returned (.tuple #[v, .int .i64 n1, .int .i64 n2]) ∧ (ys, n1, n2) = m ∧ ys.length ≤ 1048576 ∧ Own w' w.heap.size E e0 s v ys ∧ Below w.heap.size w w'
theorem RL3.mk {α : Type} {e0 : α → List Value} {s : Nat} {E : TypeId} {m : List α × Int × Int} {v : Value} {ys : List α} {n1 n2 : Int} {w w' : World} (h : (ys, n1, n2) = m) (hl : ys.length ≤ 1048576) (ho : Own w' w.heap.size E e0 s v ys) (hb : Below w.heap.size w w') :
    RL3 e0 s E m w (.returned (.tuple #[v, .int .i64 n1, .int .i64 n2])) w' := ⟨v, ys, n1, n2, rfl, h, hl, ho, hb⟩
theorem RL3.no {α : Type} {e0 : α → List Value} {s : Nat} {E : TypeId} {m : List α × Int × Int} {n1 n2 : Int} {w w' : World} (he : ∀ x, (e0 x).length = s) (h : ([], n1, n2) = m) (hb : Below w.heap.size w w') :
    RL3 e0 s E m w (.returned (.tuple #[.slice none 0 0, .int .i64 n1, .int .i64 n2])) w' := ⟨_, [], n1, n2, rfl, h, by simp, Own.nilv w' he w.heap.size E, hb⟩
theorem act_any (x : TCarriage) (hx : CarriageOk x) (b base B i : Nat) (a0 bl : Int) (fr : Bool) (ls : List TStruck) (hok : TyOk i ⟨a0, fr, bl, ls⟩) (hi : i < 200) (v : Value) (ba oa : Nat) (k : Int) (hkk : k = 0 ∨ k = 1 ∨ k = 2 ∨ k = 3 ∨ k = 4 ∨ k = 5) (l : ByteArray) (w : World)
    (hm : At7 w b 141 (.int .i64 x.1) (.int .i64 x.2.1) (.int .i64 x.2.2) (.int .i64 a0) (.bool fr) (.int .i64 bl) v) (hown : Own w base 128 encStruck 2 v ls) (hap : Apart v b) (hbs : base ≤ w.heap.size) (hB1 : B ≤ b) (hB2 : B ≤ base) (hba : ba < B)
    (hc0 : w.cell? ⟨ba, oa, none⟩ = some (.int .i64 k)) (hc1 : w.cell? ⟨ba, oa + 1, none⟩ = some (.string l)) :
    Calls Try.prog 136 #[.pointer (some ⟨b, 0, none⟩), .pointer (some ⟨ba, oa, none⟩)] w fun e w' => ∃ s' v', e = .returned (.bool (tyStep x (k, l) ⟨a0, fr, bl, ls⟩).isSome) ∧ s' = (tyStep x (k, l) ⟨a0, fr, bl, ls⟩).getD ⟨a0, fr, bl, ls⟩ ∧ At7 w' b 141 (.int .i64 x.1) (.int .i64 x.2.1) (.int .i64 x.2.2) (.int .i64 s'.at_) (.bool s'.fr) (.int .i64 s'.bl) v' ∧ Own w' base 128 encStruck 2 v' s'.ls ∧ Apart v' b ∧ Below B w w' := by
  rcases hkk with rfl | rfl | rfl | rfl | rfl | rfl
  · exact act_move0 x hx b base B i a0 bl fr ls hok hi v ba oa l w hm hown hap hbs hB1 hB2 hba hc0 hc1
  · exact act_move1 x hx b base B i a0 bl fr ls hok hi v ba oa 1 (.inl rfl) l w hm hown hap hbs hB1 hB2 hba hc0 hc1
  · exact act_still2 x hx b base B i a0 bl fr ls hok hi v ba oa l w hm hown hap hbs hB1 hB2 hba hc0 hc1
  · exact act_move1 x hx b base B i a0 bl fr ls hok hi v ba oa 3 (.inr rfl) l w hm hown hap hbs hB1 hB2 hba hc0 hc1
  · exact act_still4 x hx b base B i a0 bl fr ls hok hi v ba oa l w hm hown hap hbs hB1 hB2 hba hc0 hc1
  · exact act_still5 x hx b base B i a0 bl fr ls hok hi v ba oa l w hm hown hap hbs hB1 hB2 hba hc0 hc1
/-- How many acts are done. -/
def stopN (r : TySt × Int) (n : Nat) : Int := if r.2 < 0 then (n : Int) else r.2
theorem tyStep_ok {x : TCarriage} (hx : CarriageOk x) {i : Nat} {s s' : TySt} {a : TAct} (h : TyOk i s) (hs : tyStep x a s = some s') : TyOk (i + 1) s' := by
  unfold tyStep at hs
  split at hs
  · injection hs with hs; subst hs; exact TyOk.still hx h a
  · split at hs
    · cases hs
    · rename_i h1 h2
      injection hs with hs; subst hs; exact h.move a _ (by unfold stepW; split <;> (try split) <;> omega) h2
theorem act_kind {a : TAct} (h : ActOk a) : a.1 = 0 ∨ a.1 = 1 ∨ a.1 = 2 ∨ a.1 = 3 ∨ a.1 = 4 ∨ a.1 = 5 := by
  rcases h with ⟨h, _⟩ | ⟨h, h2, _⟩
  · exact .inl h
  · omega
set_option maxHeartbeats 3200000 in
set_option maxRecDepth 10000 in
theorem l04Run_any (x : TCarriage) (hx : CarriageOk x) (A : Option Addr) (c : Nat) (xs : List TAct) (hk : ActsOk xs) (w : World) (rx : Row w A encAct 2 xs) :
    Calls Try.prog 98 #[.agg #[.int .i64 x.1, .int .i64 x.2.1, .int .i64 x.2.2], .slice A xs.length c] w fun e w' => ∃ (b : Nat) (v : Value) (n : Int), e = .returned (.tuple #[.pointer (some ⟨b, 0, none⟩), .int .i64 n]) ∧ n = stopN (tyRun x xs) xs.length ∧
      At7 w' b 141 (.int .i64 x.1) (.int .i64 x.2.1) (.int .i64 x.2.2) (.int .i64 (tyRun x xs).1.at_) (.bool (tyRun x xs).1.fr) (.int .i64 (tyRun x xs).1.bl) v ∧ Own w' w.heap.size 128 encStruck 2 v (tyRun x xs).1.ls ∧ Below w.heap.size w w' := by
  have hl200 := hk.1
  have HK := Lib.hid hk.2
  have HX := Lib.hid hx
  obtain ⟨R, hR⟩ : ∃ R, tyGo x xs 0 ⟨x.1, false, 0, []⟩ = R := ⟨_, rfl⟩
  rw [show tyRun x xs = R from hR]
  have HRn := Lib.hid hR
  clear hR hk hx
  have hB0 : Below w.heap.size w (w.alloc (.cells #[.int .i64 x.1, .int .i64 x.2.1, .int .i64 x.2.2] 72)) := bal (Below.refl _ _) _
  obtain ⟨W1, hW1⟩ : ∃ W1, W1 = w.alloc (.cells #[.int .i64 x.1, .int .i64 x.2.1, .int .i64 x.2.2] 72) := ⟨_, rfl⟩
  have hs1 : W1.heap.size = (w.heap.size + 1) := by rw [hW1]; simp
  rw [← hW1] at hB0
  have o2 := Own.lit0 (e := encStruck) (s := 2) W1 (fun _ => rfl) W1.heap.size 128 (Nat.le_refl _)
  have hB2 := bal hB0 (.cells #[] 128)
  obtain ⟨W2, hW2⟩ : ∃ W2, W2 = W1.alloc (.cells #[] 128) := ⟨_, rfl⟩
  have hs2 : W2.heap.size = (w.heap.size + 1 + 1) := by rw [hW2]; simp [hs1]
  rw [← hW2] at hB2 o2
  rw [hs1] at o2
  have t3 := At7.new W2 141 (.int .i64 x.1) (.int .i64 x.2.1) (.int .i64 x.2.2) (.int .i64 x.1) (.bool false) (.int .i64 0) (.slice (some ⟨(w.heap.size + 1), 0, none⟩) 0 0)
  rw [hs2] at t3
  have hB3 := bal hB2 (.cells #[.int .i64 x.1, .int .i64 x.2.1, .int .i64 x.2.2, .int .i64 x.1, .bool false, .int .i64 0, .slice (some ⟨(w.heap.size + 1), 0, none⟩) 0 0] 141)
  have o3 := o2.below (bal (Below.refl _ _) (.cells #[.int .i64 x.1, .int .i64 x.2.1, .int .i64 x.2.2, .int .i64 x.1, .bool false, .int .i64 0, .slice (some ⟨(w.heap.size + 1), 0, none⟩) 0 0] 141))
  have a3 : Apart (.slice (some ⟨(w.heap.size + 1), 0, none⟩) 0 0) (w.heap.size + 1 + 1) := fun g hg => by simp [Value.ownBlock] at hg; omega
  have HW := Lib.hid hW1
  have HW2 := Lib.hid hW2
  have H0 := Lib.hid (And.intro t3 (And.intro hB3 (And.intro o3 a3)))
  clear hW1 hW2 t3 hB3 o3 a3 hB0 hB2 o2 hs1 hs2
  go_enter Try.func98, Try.ntmps98
  go_wp2_with fail
  rw [← HW.out, ← HW2.out]
  go_loopg [7] xs.length (fun g is wr => ∃ (i : Nat) (s : TySt) (v : Value), i ≤ xs.length ∧ g = xs.length - i ∧ TyOk i s ∧ tyGo x (xs.drop i) i s = R ∧ Own wr (w.heap.size + 1) 128 encStruck 2 v s.ls ∧ Apart v (w.heap.size + 1 + 1) ∧ At7 wr (w.heap.size + 1 + 1) 141 (.int .i64 x.1) (.int .i64 x.2.1) (.int .i64 x.2.2) (.int .i64 s.at_) (.bool s.fr) (.int .i64 s.bl) v ∧ Below w.heap.size w wr ∧ is = .int .i64 i)
  case atStart =>
    obtain ⟨t3, hB3, o3, a3⟩ := H0.out
    exact ⟨0, ⟨x.1, false, 0, []⟩, _, Nat.zero_le _, rfl, TyOk.start HX.out, HRn.out, o3, a3, t3, hB3, rfl⟩
  case round =>
    obtain ⟨i, ⟨a0, fr, bl, ls⟩, v, hii, hg, hok, hgo, hown, hap, ht, hbw, rfl⟩ := hrel
    dsimp only at hown ht
    have HG := Lib.hid hg
    have HOk := Lib.hid hok
    have hp1 := hok.b9
    have hp2 := hok.l9
    clear hg H0 hok
    by_cases hlt : i < xs.length
    · obtain ⟨ba, off, hA, hb, c0, c1⟩ := (rx.below hbw).at2 (f := fun x : TAct => .int .i64 x.1) (g := fun x : TAct => .string x.2) (k := i) hlt
      have hba : ba < w.heap.size := by
        obtain ⟨b9, off9, hA9, hb9, _⟩ := rx.at2 (f := fun x : TAct => .int .i64 x.1) (g := fun x : TAct => .string x.2) (k := i) hlt
        rw [hA] at hA9
        simp only [Option.some.injEq, Addr.mk.injEq, and_true] at hA9
        rw [hA9.1]; exact hb9
      subst hA
      have hact := act_kind (HK.out _ (List.getElem_mem hlt))
      obtain ⟨y, hy⟩ : ∃ y, xs[i] = y := ⟨_, rfl⟩
      have i1 : (0 : Int) ≤ (i : Int) := by omega
      have i2 : (i : Int) < (xs.length : Int) := by omega
      have AC := act_any x HX.out (w.heap.size + 1 + 1) (w.heap.size + 1) (w.heap.size + 1) i a0 bl fr ls HOk.out (by omega) v ba (off + i * 2) xs[i].1 hact xs[i].2 wr ht hown hap (by have := ht.lt; omega) (by omega) (Nat.le_refl _) (by omega) c0 c1
      rw [show (xs[i].1, xs[i].2) = xs[i] from rfl] at AC
      cases hst : tyStep x xs[i] ⟨a0, fr, bl, ls⟩ with
      | none =>
        rw [tyGo_stop hlt hst] at hgo
        rw [hst] at AC
        have HF := Lib.hid hgo
        have HAC := Lib.hid AC
        have hz : ¬ ((i : Int) < 0) := by omega
        clear hst AC hgo hy hown hap ht c0 c1 hact
        go_wp2_with (go_at_call 136; refine HAC.out.mono ?_; rintro e w5 ⟨s5, v5, rfl, hs5, hm5, ho5, ha5, hb5⟩; have HS5 := Lib.hid hs5; clear hs5; dsimp only [Option.isSome])
        go_ret2
        have hs5 : s5 = ⟨a0, fr, bl, ls⟩ := HS5.out
        subst hs5
        exact ⟨_, v5, (i : Int), rfl, by rw [← HF.out]; unfold stopN; rw [if_neg (by simp)], by rw [← HF.out]; exact hm5, by rw [← HF.out]; exact ho5.mono (by omega), hbw.trans (hb5.mono (by omega))⟩
      | some s' =>
        rw [tyGo_next hlt hst] at hgo
        have hok' := tyStep_ok HX.out HOk.out hst
        rw [hst] at AC
        have HF := Lib.hid hgo
        have HAC := Lib.hid AC
        have HOk2 := Lib.hid hok'
        clear hst AC hgo hy hown hap ht c0 c1 hact hok'
        go_wp2_with (go_at_call 136; refine HAC.out.mono ?_; rintro e w5 ⟨s5, v5, rfl, hs5, hm5, ho5, ha5, hb5⟩; have HS5 := Lib.hid hs5; clear hs5; dsimp only [Option.isSome])
        go_roundg (xs.length - (i + 1))
        case measure => rw [HG.out]; omega
        case rel =>
          have hs5 : s5 = s' := HS5.out
          subst hs5
          exact ⟨i + 1, s5, v5, by omega, rfl, HOk2.out, HF.out, ho5, ha5, hm5, hbw.trans (hb5.mono (by omega)), by go_num⟩
    · have hfin := tyGo_end (c := x) (s := (⟨a0, fr, bl, ls⟩ : TySt)) hlt
      rw [hfin] at hgo
      have HF := Lib.hid hgo
      clear hgo hfin
      go_wp2_with fail
      go_ret2
      exact ⟨_, v, (xs.length : Int), rfl, by rw [← HF.out]; unfold stopN; rw [if_pos (by simp)], by rw [← HF.out]; exact ht, by rw [← HF.out]; exact hown.mono (by omega), hbw⟩
theorem tyGo_lt {c : TCarriage} : ∀ (az : List TAct) (i : Nat) (s : TySt), (tyGo c az i s).2 < 0 ∨ (tyGo c az i s).2 < (i : Int) + az.length
  | [], i, s => .inl (by simp [tyGo])
  | a :: az, i, s => by
    unfold tyGo
    cases hs : tyStep c a s with
    | none => exact .inr (by simp; omega)
    | some s' =>
      rcases tyGo_lt az (i + 1) s' with h | h
      · exact .inl h
      · exact .inr (by simp only [List.length_cons]; omega)
theorem tyRun_lt (c : TCarriage) (az : List TAct) : (tyRun c az).2 < 0 ∨ (tyRun c az).2 < (az.length : Int) := by
  have := tyGo_lt (c := c) az 0 ⟨c.1, false, 0, []⟩
  unfold tyRun
  omega
set_option maxHeartbeats 1600000 in
theorem l04Both_any (x : TCarriage) (hx : okCarriage x) (A : Option Addr) (c : Nat) (xs : List TAct) (hxl : xs.length ≤ 1048576) (hk : ∀ a ∈ xs, KAct a) (w : World) (rx : Row w A encAct 2 xs) :
    Calls Try.prog 97 #[.agg #[.int .i64 x.1, .int .i64 x.2.1, .int .i64 x.2.2], .slice A xs.length c] w (RBb (CarriageOk x ∧ ActsOk xs) w) := by
  obtain ⟨W0, hW0⟩ : ∃ W0, W0 = w.alloc (.cells #[.int .i64 x.1, .int .i64 x.2.1, .int .i64 x.2.2] 72) := ⟨_, rfl⟩
  have hB0 : Below w.heap.size w W0 := by rw [hW0]; exact bal (Below.refl _ _) _
  have k0 : AtCarriage W0 w.heap.size x := by rw [hW0]; exact AtCarriage.new w _ x
  have HW := Lib.hid hW0
  clear hW0
  rcases ff2 (CarriageOk x) (ActsOk xs) with h | ⟨h, h2⟩ | ⟨h, h2⟩
  · go_enter Try.func97, Try.ntmps97
    go_wp2_with fail
    rw [← HW.out]
    refine (RBb.no (l04Ok_any x hx _) h).mono ?_; rintro e w1 ⟨rfl, hb1⟩
    go_wp2_with fail
    go_ret
    exact RBb.mk (nott (fun q => h q.1)) (bnext hB0 hb1)
  · go_enter Try.func97, Try.ntmps97
    go_wp2_with fail
    rw [← HW.out]
    refine (RBb.yes (l04Ok_any x hx _) h).mono ?_; rintro e w1 ⟨rfl, hb1⟩
    go_wp2_with (go_at_call 135; refine (RBb.no (l04Acts_any _ _ xs hxl hk _ (rx.below (bnext hB0 hb1))) h2).mono ?_; rintro e w2 ⟨rfl, hb2⟩)
    go_ret
    exact RBb.mk (nott (fun q => h2 q.2)) (bnext (bnext hB0 hb1) hb2)
  · go_enter Try.func97, Try.ntmps97
    go_wp2_with fail
    rw [← HW.out]
    refine (RBb.yes (l04Ok_any x hx _) h).mono ?_; rintro e w1 ⟨rfl, hb1⟩
    go_wp2_with (go_at_call 135; refine (RBb.yes (l04Acts_any _ _ xs hxl hk _ (rx.below (bnext hB0 hb1))) h2).mono ?_; rintro e w2 ⟨rfl, hb2⟩)
    go_ret
    exact RBb.mk (yest ⟨h, h2⟩) (bnext (bnext hB0 hb1) hb2)
theorem fieldTy (v a b c : Value) (w : World) : (Instr.field 147 (.agg #[v, a, b, c]) 2).run Try.prog w = .ok b w := by kernel_rfl
set_option maxHeartbeats 3200000 in
set_option maxRecDepth 10000 in
theorem spec_BellsOf_any (x : TCarriage) (hx : okCarriage x) (A : Option Addr) (c : Nat) (xs : List TAct) (hxl : xs.length ≤ 1048576) (hk : ∀ a ∈ xs, KAct a) (w : World) (rx : Row w A encAct 2 xs) :
    Calls Try.prog 44 #[.agg #[.int .i64 x.1, .int .i64 x.2.1, .int .i64 x.2.2], .slice A xs.length c] w (RI2 (M_BellsOf x xs) w) := by
  obtain ⟨W0, hW0⟩ : ∃ W0, W0 = w.alloc (.cells #[.int .i64 x.1, .int .i64 x.2.1, .int .i64 x.2.2] 72) := ⟨_, rfl⟩
  have hB0 : Below w.heap.size w W0 := by rw [hW0]; exact bal (Below.refl _ _) _
  have k0 : AtCarriage W0 w.heap.size x := by rw [hW0]; exact AtCarriage.new w _ x
  have HW := Lib.hid hW0
  clear hW0
  by_cases h : CarriageOk x ∧ ActsOk xs
  case neg =>
    have HM := Lib.hid (show M_BellsOf x xs = (0, 1) by unfold M_BellsOf; rw [if_neg h])
    go_enter Try.func44, Try.ntmps44
    go_wp2_with fail
    rw [← HW.out]
    refine (RBb.no (l04Both_any x hx _ _ xs hxl hk _ (rx.below hB0)) h).mono ?_; rintro e w1 ⟨rfl, hb1⟩
    have hB1 := bnext hB0 hb1
    have k1 := k0.next hb1
    go_wp2_with fail
    go_ret2
    exact RI2.mk HM.out.symm hB1
  obtain ⟨R, hR⟩ : ∃ R, tyRun x xs = R := ⟨_, rfl⟩
  have hbd : (0 ≤ R.1.at_ ∧ R.1.at_ ≤ 300) ∧ -1 ≤ R.2 ∧ R.2 ≤ (xs.length : Int) ∧ R.1.ls.length ≤ 200 := by
    obtain ⟨j, h1, h2, h3, h4⟩ := tyGo_bd h.1 xs 0 ⟨x.1, false, 0, []⟩ (TyOk.start h.1)
    rw [show tyGo x xs 0 ⟨x.1, false, 0, []⟩ = R from hR] at h1 h3 h4
    have := h1.l9
    have := h.2.1
    exact ⟨⟨h1.a0, h1.a9⟩, h3, by omega, by omega⟩
  have HM := Lib.hid (show M_BellsOf x xs = (R.1.bl, 0) by unfold M_BellsOf; rw [if_pos h, hR])
  have RC := fun W r => l04Run_any x h.1 A c xs h.2 W r
  simp only [hR] at RC
  have HRC := Lib.hid RC
  clear RC
  go_enter Try.func44, Try.ntmps44
  go_wp2_with fail
  rw [← HW.out]
  refine (RBb.yes (l04Both_any x hx _ _ xs hxl hk _ (rx.below hB0)) h).mono ?_; rintro e w1 ⟨rfl, hb1⟩
  have hB1 := bnext hB0 hb1
  have k1 := k0.next hb1
  go_wp2_with (go_at_call 98; refine (HRC.out _ (rx.below hB1)).mono ?_; rintro e w3 ⟨bq, v3, n3, rfl, hn3, hm3, ho3, hb3⟩; have HM3 := Lib.hid hm3; have d3 := hm3.cell3; have d5 := hm3.cell5; have d6 := hm3.cell6; obtain ⟨A3, l3, c3, rfl⟩ := own_slice ho3; clear hm3; have HN3 := Lib.hid hn3; clear hn3)
  go_ret2
  exact RI2.mk HM.out.symm (bnext hB1 hb3)
set_option maxHeartbeats 3200000 in
set_option maxRecDepth 10000 in
theorem impl_BellsOf_any (x : TCarriage) (hx : okCarriage x) (A : Option Addr) (c : Nat) (xs : List TAct) (hxl : xs.length ≤ 1048576) (hk : ∀ a ∈ xs, KAct a) (w : World) (rx : Row w A encAct 2 xs) :
    Calls Try.prog 47 #[.agg #[.int .i64 x.1, .int .i64 x.2.1, .int .i64 x.2.2], .slice A xs.length c] w (RI2 (M_BellsOf x xs) w) := by
  obtain ⟨W0, hW0⟩ : ∃ W0, W0 = w.alloc (.cells #[.int .i64 x.1, .int .i64 x.2.1, .int .i64 x.2.2] 72) := ⟨_, rfl⟩
  have hB0 : Below w.heap.size w W0 := by rw [hW0]; exact bal (Below.refl _ _) _
  have k0 : AtCarriage W0 w.heap.size x := by rw [hW0]; exact AtCarriage.new w _ x
  have HW := Lib.hid hW0
  clear hW0
  by_cases h : CarriageOk x ∧ ActsOk xs
  case neg =>
    have HM := Lib.hid (show M_BellsOf x xs = (0, 1) by unfold M_BellsOf; rw [if_neg h])
    rcases ff2 (CarriageOk x) (ActsOk xs) with h1 | ⟨h1, h2⟩ | ⟨h1, h2⟩
    · go_enter Try.func47, Try.ntmps47
      go_wp2_with fail
      rw [← HW.out]
      refine (RBb.no (impl_ValidCarriage_any x hx _) h1).mono ?_; rintro e w0 ⟨rfl, hb0⟩
      go_wp2_with fail
      go_ret2
      exact RI2.mk HM.out.symm (bnext hB0 hb0)
    · go_enter Try.func47, Try.ntmps47
      go_wp2_with fail
      rw [← HW.out]
      refine (RBb.yes (impl_ValidCarriage_any x hx _) h1).mono ?_; rintro e w0 ⟨rfl, hb0⟩
      have k1' := k0.next hb0
      have hB1' := bnext hB0 hb0
      go_wp2_with (go_at_call 101; refine (RBb.no (impl_ValidActs_any _ _ xs hxl hk _ (rx.below hB1')) h2).mono ?_; rintro e w1 ⟨rfl, hb1⟩; have hB1 := bnext hB1' hb1; have k1 := k1'.next hb1)
      go_ret2
      exact RI2.mk HM.out.symm hB1
    · exact absurd ⟨h1, h2⟩ h
  obtain ⟨R, hR⟩ : ∃ R, tyRun x xs = R := ⟨_, rfl⟩
  have hbd : (0 ≤ R.1.at_ ∧ R.1.at_ ≤ 300) ∧ -1 ≤ R.2 ∧ R.2 ≤ (xs.length : Int) ∧ R.1.ls.length ≤ 200 := by
    obtain ⟨j, h1, h2, h3, h4⟩ := tyGo_bd h.1 xs 0 ⟨x.1, false, 0, []⟩ (TyOk.start h.1)
    rw [show tyGo x xs 0 ⟨x.1, false, 0, []⟩ = R from hR] at h1 h3 h4
    have := h1.l9
    have := h.2.1
    exact ⟨⟨h1.a0, h1.a9⟩, h3, by omega, by omega⟩
  have HM := Lib.hid (show M_BellsOf x xs = (R.1.bl, 0) by unfold M_BellsOf; rw [if_pos h, hR])
  have RC := fun W r => typed_any x h.1 A c xs h.2 W r
  simp only [hR] at RC
  have HRC := Lib.hid RC
  clear RC
  go_enter Try.func47, Try.ntmps47
  go_wp2_with fail
  rw [← HW.out]
  refine (RBb.yes (impl_ValidCarriage_any x hx _) h.1).mono ?_; rintro e w0 ⟨rfl, hb0⟩
  have k1' := k0.next hb0
  have hB1' := bnext hB0 hb0
  go_wp2_with (go_at_call 101; refine (RBb.yes (impl_ValidActs_any _ _ xs hxl hk _ (rx.below hB1')) h.2).mono ?_; rintro e w1 ⟨rfl, hb1⟩; have hB1 := bnext hB1' hb1; have k1 := k1'.next hb1)
  go_wp2_with (go_at_call 102; refine (HRC.out _ (rx.below hB1)).mono ?_; rintro e w3 ⟨v3, rfl, ho3, hb3⟩; obtain ⟨A3, l3, c3, rfl⟩ := own_slice ho3; have hfd := fieldTy (.slice A3 l3 c3) (.int .i64 R.1.at_) (.int .i64 R.1.bl) (.int .i64 R.2) w3)
  go_ret2
  exact RI2.mk HM.out.symm (bnext hB1 hb3)
set_option maxHeartbeats 3200000 in
set_option maxRecDepth 10000 in
theorem spec_LockedAt_any (x : TCarriage) (hx : okCarriage x) (A : Option Addr) (c : Nat) (xs : List TAct) (hxl : xs.length ≤ 1048576) (hk : ∀ a ∈ xs, KAct a) (w : World) (rx : Row w A encAct 2 xs) :
    Calls Try.prog 49 #[.agg #[.int .i64 x.1, .int .i64 x.2.1, .int .i64 x.2.2], .slice A xs.length c] w (RI2 (M_LockedAt x xs) w) := by
  obtain ⟨W0, hW0⟩ : ∃ W0, W0 = w.alloc (.cells #[.int .i64 x.1, .int .i64 x.2.1, .int .i64 x.2.2] 72) := ⟨_, rfl⟩
  have hB0 : Below w.heap.size w W0 := by rw [hW0]; exact bal (Below.refl _ _) _
  have k0 : AtCarriage W0 w.heap.size x := by rw [hW0]; exact AtCarriage.new w _ x
  have HW := Lib.hid hW0
  clear hW0
  by_cases h : CarriageOk x ∧ ActsOk xs
  case neg =>
    have HM := Lib.hid (show M_LockedAt x xs = (0, 1) by unfold M_LockedAt; rw [if_neg h])
    go_enter Try.func49, Try.ntmps49
    go_wp2_with fail
    rw [← HW.out]
    refine (RBb.no (l04Both_any x hx _ _ xs hxl hk _ (rx.below hB0)) h).mono ?_; rintro e w1 ⟨rfl, hb1⟩
    have hB1 := bnext hB0 hb1
    have k1 := k0.next hb1
    go_wp2_with fail
    go_ret2
    exact RI2.mk HM.out.symm hB1
  obtain ⟨R, hR⟩ : ∃ R, tyRun x xs = R := ⟨_, rfl⟩
  have hbd : (0 ≤ R.1.at_ ∧ R.1.at_ ≤ 300) ∧ -1 ≤ R.2 ∧ R.2 ≤ (xs.length : Int) ∧ R.1.ls.length ≤ 200 := by
    obtain ⟨j, h1, h2, h3, h4⟩ := tyGo_bd h.1 xs 0 ⟨x.1, false, 0, []⟩ (TyOk.start h.1)
    rw [show tyGo x xs 0 ⟨x.1, false, 0, []⟩ = R from hR] at h1 h3 h4
    have := h1.l9
    have := h.2.1
    exact ⟨⟨h1.a0, h1.a9⟩, h3, by omega, by omega⟩
  by_cases hz : R.2 < 0
  · have HM := Lib.hid (show M_LockedAt x xs = (0, 3) by unfold M_LockedAt; rw [if_pos h, hR]; rw [if_pos hz])
    have RC := fun W r => l04Run_any x h.1 A c xs h.2 W r
    simp only [hR] at RC
    simp only [show stopN R xs.length = (xs.length : Int) by unfold stopN; rw [if_pos hz]] at RC
    have HRC := Lib.hid RC
    clear RC
    go_enter Try.func49, Try.ntmps49
    go_wp2_with fail
    rw [← HW.out]
    refine (RBb.yes (l04Both_any x hx _ _ xs hxl hk _ (rx.below hB0)) h).mono ?_; rintro e w1 ⟨rfl, hb1⟩
    have hB1 := bnext hB0 hb1
    have k1 := k0.next hb1
    go_wp2_with (go_at_call 98; refine (HRC.out _ (rx.below hB1)).mono ?_; rintro e w3 ⟨bq, v3, n3, rfl, hn3, hm3, ho3, hb3⟩; have HM3 := Lib.hid hm3; have d3 := hm3.cell3; have d5 := hm3.cell5; have d6 := hm3.cell6; obtain ⟨A3, l3, c3, rfl⟩ := own_slice ho3; clear hm3; subst hn3)
    go_ret2
    exact RI2.mk HM.out.symm (bnext hB1 hb3)
  · have HM := Lib.hid (show M_LockedAt x xs = (R.2, 0) by unfold M_LockedAt; rw [if_pos h, hR]; rw [if_neg hz])
    have RC := fun W r => l04Run_any x h.1 A c xs h.2 W r
    simp only [hR] at RC
    simp only [show stopN R xs.length = R.2 by unfold stopN; rw [if_neg hz]] at RC
    have HRC := Lib.hid RC
    clear RC
    have hn9 : R.2 < (xs.length : Int) := by
      by_cases hq : R.2 < (xs.length : Int)
      · exact hq
      · exact absurd (tyRun_lt x xs) (by rw [hR]; omega)
    have tn : (R.2 == (xs.length : Int)) = false := by rw [beq_eq_false_iff_ne]; omega
    go_enter Try.func49, Try.ntmps49
    go_wp2_with fail
    rw [← HW.out]
    refine (RBb.yes (l04Both_any x hx _ _ xs hxl hk _ (rx.below hB0)) h).mono ?_; rintro e w1 ⟨rfl, hb1⟩
    have hB1 := bnext hB0 hb1
    have k1 := k0.next hb1
    go_wp2_with (go_at_call 98; refine (HRC.out _ (rx.below hB1)).mono ?_; rintro e w3 ⟨bq, v3, n3, rfl, hn3, hm3, ho3, hb3⟩; have HM3 := Lib.hid hm3; have d3 := hm3.cell3; have d5 := hm3.cell5; have d6 := hm3.cell6; obtain ⟨A3, l3, c3, rfl⟩ := own_slice ho3; clear hm3; subst hn3)
    go_ret2
    exact RI2.mk HM.out.symm (bnext hB1 hb3)
set_option maxHeartbeats 3200000 in
set_option maxRecDepth 10000 in
theorem impl_LockedAt_any (x : TCarriage) (hx : okCarriage x) (A : Option Addr) (c : Nat) (xs : List TAct) (hxl : xs.length ≤ 1048576) (hk : ∀ a ∈ xs, KAct a) (w : World) (rx : Row w A encAct 2 xs) :
    Calls Try.prog 50 #[.agg #[.int .i64 x.1, .int .i64 x.2.1, .int .i64 x.2.2], .slice A xs.length c] w (RI2 (M_LockedAt x xs) w) := by
  obtain ⟨W0, hW0⟩ : ∃ W0, W0 = w.alloc (.cells #[.int .i64 x.1, .int .i64 x.2.1, .int .i64 x.2.2] 72) := ⟨_, rfl⟩
  have hB0 : Below w.heap.size w W0 := by rw [hW0]; exact bal (Below.refl _ _) _
  have k0 : AtCarriage W0 w.heap.size x := by rw [hW0]; exact AtCarriage.new w _ x
  have HW := Lib.hid hW0
  clear hW0
  by_cases h : CarriageOk x ∧ ActsOk xs
  case neg =>
    have HM := Lib.hid (show M_LockedAt x xs = (0, 1) by unfold M_LockedAt; rw [if_neg h])
    rcases ff2 (CarriageOk x) (ActsOk xs) with h1 | ⟨h1, h2⟩ | ⟨h1, h2⟩
    · go_enter Try.func50, Try.ntmps50
      go_wp2_with fail
      rw [← HW.out]
      refine (RBb.no (impl_ValidCarriage_any x hx _) h1).mono ?_; rintro e w0 ⟨rfl, hb0⟩
      go_wp2_with fail
      go_ret2
      exact RI2.mk HM.out.symm (bnext hB0 hb0)
    · go_enter Try.func50, Try.ntmps50
      go_wp2_with fail
      rw [← HW.out]
      refine (RBb.yes (impl_ValidCarriage_any x hx _) h1).mono ?_; rintro e w0 ⟨rfl, hb0⟩
      have k1' := k0.next hb0
      have hB1' := bnext hB0 hb0
      go_wp2_with (go_at_call 101; refine (RBb.no (impl_ValidActs_any _ _ xs hxl hk _ (rx.below hB1')) h2).mono ?_; rintro e w1 ⟨rfl, hb1⟩; have hB1 := bnext hB1' hb1; have k1 := k1'.next hb1)
      go_ret2
      exact RI2.mk HM.out.symm hB1
    · exact absurd ⟨h1, h2⟩ h
  obtain ⟨R, hR⟩ : ∃ R, tyRun x xs = R := ⟨_, rfl⟩
  have hbd : (0 ≤ R.1.at_ ∧ R.1.at_ ≤ 300) ∧ -1 ≤ R.2 ∧ R.2 ≤ (xs.length : Int) ∧ R.1.ls.length ≤ 200 := by
    obtain ⟨j, h1, h2, h3, h4⟩ := tyGo_bd h.1 xs 0 ⟨x.1, false, 0, []⟩ (TyOk.start h.1)
    rw [show tyGo x xs 0 ⟨x.1, false, 0, []⟩ = R from hR] at h1 h3 h4
    have := h1.l9
    have := h.2.1
    exact ⟨⟨h1.a0, h1.a9⟩, h3, by omega, by omega⟩
  by_cases hz : R.2 < 0
  · have HM := Lib.hid (show M_LockedAt x xs = (0, 3) by unfold M_LockedAt; rw [if_pos h, hR]; rw [if_pos hz])
    have RC := fun W r => typed_any x h.1 A c xs h.2 W r
    simp only [hR] at RC
    have HRC := Lib.hid RC
    clear RC
    go_enter Try.func50, Try.ntmps50
    go_wp2_with fail
    rw [← HW.out]
    refine (RBb.yes (impl_ValidCarriage_any x hx _) h.1).mono ?_; rintro e w0 ⟨rfl, hb0⟩
    have k1' := k0.next hb0
    have hB1' := bnext hB0 hb0
    go_wp2_with (go_at_call 101; refine (RBb.yes (impl_ValidActs_any _ _ xs hxl hk _ (rx.below hB1')) h.2).mono ?_; rintro e w1 ⟨rfl, hb1⟩; have hB1 := bnext hB1' hb1; have k1 := k1'.next hb1)
    have tz : decide (R.2 < 0) = true := decide_eq_true (by omega)
    clear hz
    go_wp2_with (go_at_call 102; refine (HRC.out _ (rx.below hB1)).mono ?_; rintro e w3 ⟨v3, rfl, ho3, hb3⟩; obtain ⟨A3, l3, c3, rfl⟩ := own_slice ho3; have hfd := fieldTy (.slice A3 l3 c3) (.int .i64 R.1.at_) (.int .i64 R.1.bl) (.int .i64 R.2) w3)
    go_ret2
    exact RI2.mk HM.out.symm (bal (bnext hB1 hb3) _)
  · have HM := Lib.hid (show M_LockedAt x xs = (R.2, 0) by unfold M_LockedAt; rw [if_pos h, hR]; rw [if_neg hz])
    have RC := fun W r => typed_any x h.1 A c xs h.2 W r
    simp only [hR] at RC
    have HRC := Lib.hid RC
    clear RC
    go_enter Try.func50, Try.ntmps50
    go_wp2_with fail
    rw [← HW.out]
    refine (RBb.yes (impl_ValidCarriage_any x hx _) h.1).mono ?_; rintro e w0 ⟨rfl, hb0⟩
    have k1' := k0.next hb0
    have hB1' := bnext hB0 hb0
    go_wp2_with (go_at_call 101; refine (RBb.yes (impl_ValidActs_any _ _ xs hxl hk _ (rx.below hB1')) h.2).mono ?_; rintro e w1 ⟨rfl, hb1⟩; have hB1 := bnext hB1' hb1; have k1 := k1'.next hb1)
    have tz : decide (R.2 < 0) = false := decide_eq_false (by omega)
    clear hz
    go_wp2_with (go_at_call 102; refine (HRC.out _ (rx.below hB1)).mono ?_; rintro e w3 ⟨v3, rfl, ho3, hb3⟩; obtain ⟨A3, l3, c3, rfl⟩ := own_slice ho3; have hfd := fieldTy (.slice A3 l3 c3) (.int .i64 R.1.at_) (.int .i64 R.1.bl) (.int .i64 R.2) w3)
    go_ret2
    exact RI2.mk HM.out.symm (bal (bnext hB1 hb3) _)
set_option maxHeartbeats 3200000 in
set_option maxRecDepth 10000 in
theorem spec_TypeActs_any (x : TCarriage) (hx : okCarriage x) (A : Option Addr) (c : Nat) (xs : List TAct) (hxl : xs.length ≤ 1048576) (hk : ∀ a ∈ xs, KAct a) (w : World) (rx : Row w A encAct 2 xs) :
    Calls Try.prog 63 #[.agg #[.int .i64 x.1, .int .i64 x.2.1, .int .i64 x.2.2], .slice A xs.length c] w (RL3 encStruck 2 128 (M_TypeActs x xs) w) := by
  obtain ⟨W0, hW0⟩ : ∃ W0, W0 = w.alloc (.cells #[.int .i64 x.1, .int .i64 x.2.1, .int .i64 x.2.2] 72) := ⟨_, rfl⟩
  have hB0 : Below w.heap.size w W0 := by rw [hW0]; exact bal (Below.refl _ _) _
  have k0 : AtCarriage W0 w.heap.size x := by rw [hW0]; exact AtCarriage.new w _ x
  have HW := Lib.hid hW0
  clear hW0
  by_cases h : CarriageOk x ∧ ActsOk xs
  case neg =>
    have HM := Lib.hid (show M_TypeActs x xs = ([], 0, 1) by unfold M_TypeActs; rw [if_neg h])
    go_enter Try.func63, Try.ntmps63
    go_wp2_with fail
    rw [← HW.out]
    refine (RBb.no (l04Both_any x hx _ _ xs hxl hk _ (rx.below hB0)) h).mono ?_; rintro e w1 ⟨rfl, hb1⟩
    have hB1 := bnext hB0 hb1
    have k1 := k0.next hb1
    go_wp2_with fail
    go_ret3
    exact RL3.no (fun _ => rfl) HM.out.symm hB1
  obtain ⟨R, hR⟩ : ∃ R, tyRun x xs = R := ⟨_, rfl⟩
  have hbd : (0 ≤ R.1.at_ ∧ R.1.at_ ≤ 300) ∧ -1 ≤ R.2 ∧ R.2 ≤ (xs.length : Int) ∧ R.1.ls.length ≤ 200 := by
    obtain ⟨j, h1, h2, h3, h4⟩ := tyGo_bd h.1 xs 0 ⟨x.1, false, 0, []⟩ (TyOk.start h.1)
    rw [show tyGo x xs 0 ⟨x.1, false, 0, []⟩ = R from hR] at h1 h3 h4
    have := h1.l9
    have := h.2.1
    exact ⟨⟨h1.a0, h1.a9⟩, h3, by omega, by omega⟩
  by_cases hz : R.2 < 0
  · have HM := Lib.hid (show M_TypeActs x xs = (R.1.ls, R.1.at_, 0) by unfold M_TypeActs; rw [if_pos h, hR]; rw [if_pos hz])
    have RC := fun W r => l04Run_any x h.1 A c xs h.2 W r
    simp only [hR] at RC
    simp only [show stopN R xs.length = (xs.length : Int) by unfold stopN; rw [if_pos hz]] at RC
    have HRC := Lib.hid RC
    clear RC
    go_enter Try.func63, Try.ntmps63
    go_wp2_with fail
    rw [← HW.out]
    refine (RBb.yes (l04Both_any x hx _ _ xs hxl hk _ (rx.below hB0)) h).mono ?_; rintro e w1 ⟨rfl, hb1⟩
    have hB1 := bnext hB0 hb1
    have k1 := k0.next hb1
    go_wp2_with (go_at_call 98; refine (HRC.out _ (rx.below hB1)).mono ?_; rintro e w3 ⟨bq, v3, n3, rfl, hn3, hm3, ho3, hb3⟩; have HM3 := Lib.hid hm3; have d3 := hm3.cell3; have d5 := hm3.cell5; have d6 := hm3.cell6; obtain ⟨A3, l3, c3, rfl⟩ := own_slice ho3; clear hm3; subst hn3)
    go_wp2_with (go_quiet (fail))
    go_ret3
    exact RL3.mk HM.out.symm (by omega) ((ho3.mono hB1.size).below (bdrewN (Below.refl _ _) _)) (bdrewN (bnext hB1 hb3) _)
  · have HM := Lib.hid (show M_TypeActs x xs = ([], 0, 6) by unfold M_TypeActs; rw [if_pos h, hR]; rw [if_neg hz])
    have RC := fun W r => l04Run_any x h.1 A c xs h.2 W r
    simp only [hR] at RC
    simp only [show stopN R xs.length = R.2 by unfold stopN; rw [if_neg hz]] at RC
    have HRC := Lib.hid RC
    clear RC
    have hn9 : R.2 < (xs.length : Int) := by
      by_cases hq : R.2 < (xs.length : Int)
      · exact hq
      · exact absurd (tyRun_lt x xs) (by rw [hR]; omega)
    go_enter Try.func63, Try.ntmps63
    go_wp2_with fail
    rw [← HW.out]
    refine (RBb.yes (l04Both_any x hx _ _ xs hxl hk _ (rx.below hB0)) h).mono ?_; rintro e w1 ⟨rfl, hb1⟩
    have hB1 := bnext hB0 hb1
    have k1 := k0.next hb1
    go_wp2_with (go_at_call 98; refine (HRC.out _ (rx.below hB1)).mono ?_; rintro e w3 ⟨bq, v3, n3, rfl, hn3, hm3, ho3, hb3⟩; have HM3 := Lib.hid hm3; have d3 := hm3.cell3; have d5 := hm3.cell5; have d6 := hm3.cell6; obtain ⟨A3, l3, c3, rfl⟩ := own_slice ho3; clear hm3; subst hn3)
    go_ret3
    exact RL3.no (fun _ => rfl) HM.out.symm (bnext hB1 hb3)
set_option maxHeartbeats 3200000 in
set_option maxRecDepth 10000 in
theorem impl_TypeActs_any (x : TCarriage) (hx : okCarriage x) (A : Option Addr) (c : Nat) (xs : List TAct) (hxl : xs.length ≤ 1048576) (hk : ∀ a ∈ xs, KAct a) (w : World) (rx : Row w A encAct 2 xs) :
    Calls Try.prog 64 #[.agg #[.int .i64 x.1, .int .i64 x.2.1, .int .i64 x.2.2], .slice A xs.length c] w (RL3 encStruck 2 128 (M_TypeActs x xs) w) := by
  obtain ⟨W0, hW0⟩ : ∃ W0, W0 = w.alloc (.cells #[.int .i64 x.1, .int .i64 x.2.1, .int .i64 x.2.2] 72) := ⟨_, rfl⟩
  have hB0 : Below w.heap.size w W0 := by rw [hW0]; exact bal (Below.refl _ _) _
  have k0 : AtCarriage W0 w.heap.size x := by rw [hW0]; exact AtCarriage.new w _ x
  have HW := Lib.hid hW0
  clear hW0
  by_cases h : CarriageOk x ∧ ActsOk xs
  case neg =>
    have HM := Lib.hid (show M_TypeActs x xs = ([], 0, 1) by unfold M_TypeActs; rw [if_neg h])
    rcases ff2 (CarriageOk x) (ActsOk xs) with h1 | ⟨h1, h2⟩ | ⟨h1, h2⟩
    · go_enter Try.func64, Try.ntmps64
      go_wp2_with fail
      rw [← HW.out]
      refine (RBb.no (impl_ValidCarriage_any x hx _) h1).mono ?_; rintro e w0 ⟨rfl, hb0⟩
      go_wp2_with fail
      go_ret3
      exact RL3.no (fun _ => rfl) HM.out.symm (bnext hB0 hb0)
    · go_enter Try.func64, Try.ntmps64
      go_wp2_with fail
      rw [← HW.out]
      refine (RBb.yes (impl_ValidCarriage_any x hx _) h1).mono ?_; rintro e w0 ⟨rfl, hb0⟩
      have k1' := k0.next hb0
      have hB1' := bnext hB0 hb0
      go_wp2_with (go_at_call 101; refine (RBb.no (impl_ValidActs_any _ _ xs hxl hk _ (rx.below hB1')) h2).mono ?_; rintro e w1 ⟨rfl, hb1⟩; have hB1 := bnext hB1' hb1; have k1 := k1'.next hb1)
      go_ret3
      exact RL3.no (fun _ => rfl) HM.out.symm hB1
    · exact absurd ⟨h1, h2⟩ h
  obtain ⟨R, hR⟩ : ∃ R, tyRun x xs = R := ⟨_, rfl⟩
  have hbd : (0 ≤ R.1.at_ ∧ R.1.at_ ≤ 300) ∧ -1 ≤ R.2 ∧ R.2 ≤ (xs.length : Int) ∧ R.1.ls.length ≤ 200 := by
    obtain ⟨j, h1, h2, h3, h4⟩ := tyGo_bd h.1 xs 0 ⟨x.1, false, 0, []⟩ (TyOk.start h.1)
    rw [show tyGo x xs 0 ⟨x.1, false, 0, []⟩ = R from hR] at h1 h3 h4
    have := h1.l9
    have := h.2.1
    exact ⟨⟨h1.a0, h1.a9⟩, h3, by omega, by omega⟩
  by_cases hz : R.2 < 0
  · have HM := Lib.hid (show M_TypeActs x xs = (R.1.ls, R.1.at_, 0) by unfold M_TypeActs; rw [if_pos h, hR]; rw [if_pos hz])
    have RC := fun W r => typed_any x h.1 A c xs h.2 W r
    simp only [hR] at RC
    have HRC := Lib.hid RC
    clear RC
    go_enter Try.func64, Try.ntmps64
    go_wp2_with fail
    rw [← HW.out]
    refine (RBb.yes (impl_ValidCarriage_any x hx _) h.1).mono ?_; rintro e w0 ⟨rfl, hb0⟩
    have k1' := k0.next hb0
    have hB1' := bnext hB0 hb0
    go_wp2_with (go_at_call 101; refine (RBb.yes (impl_ValidActs_any _ _ xs hxl hk _ (rx.below hB1')) h.2).mono ?_; rintro e w1 ⟨rfl, hb1⟩; have hB1 := bnext hB1' hb1; have k1 := k1'.next hb1)
    have tz : decide (0 ≤ R.2) = false := decide_eq_false (by omega)
    clear hz
    go_wp2_with (go_at_call 102; refine (HRC.out _ (rx.below hB1)).mono ?_; rintro e w3 ⟨v3, rfl, ho3, hb3⟩; obtain ⟨A3, l3, c3, rfl⟩ := own_slice ho3; have hfd := fieldTy (.slice A3 l3 c3) (.int .i64 R.1.at_) (.int .i64 R.1.bl) (.int .i64 R.2) w3)
    go_wp2_with (go_quiet (fail))
    go_ret3
    exact RL3.mk HM.out.symm (by omega) (((ho3.mono hB1.size).below (bal (Below.refl _ _) _)).below (bdrewN (Below.refl _ _) _)) (bdrewN (bal (bnext hB1 hb3) _) _)
  · have HM := Lib.hid (show M_TypeActs x xs = ([], 0, 6) by unfold M_TypeActs; rw [if_pos h, hR]; rw [if_neg hz])
    have RC := fun W r => typed_any x h.1 A c xs h.2 W r
    simp only [hR] at RC
    have HRC := Lib.hid RC
    clear RC
    go_enter Try.func64, Try.ntmps64
    go_wp2_with fail
    rw [← HW.out]
    refine (RBb.yes (impl_ValidCarriage_any x hx _) h.1).mono ?_; rintro e w0 ⟨rfl, hb0⟩
    have k1' := k0.next hb0
    have hB1' := bnext hB0 hb0
    go_wp2_with (go_at_call 101; refine (RBb.yes (impl_ValidActs_any _ _ xs hxl hk _ (rx.below hB1')) h.2).mono ?_; rintro e w1 ⟨rfl, hb1⟩; have hB1 := bnext hB1' hb1; have k1 := k1'.next hb1)
    have tz : decide (0 ≤ R.2) = true := decide_eq_true (by omega)
    clear hz
    go_wp2_with (go_at_call 102; refine (HRC.out _ (rx.below hB1)).mono ?_; rintro e w3 ⟨v3, rfl, ho3, hb3⟩; obtain ⟨A3, l3, c3, rfl⟩ := own_slice ho3; have hfd := fieldTy (.slice A3 l3 c3) (.int .i64 R.1.at_) (.int .i64 R.1.bl) (.int .i64 R.2) w3)
    go_ret3
    exact RL3.no (fun _ => rfl) HM.out.symm (bal (bnext hB1 hb3) _)
end Go.Proofs.Yteepcnfpdmmnhaa
