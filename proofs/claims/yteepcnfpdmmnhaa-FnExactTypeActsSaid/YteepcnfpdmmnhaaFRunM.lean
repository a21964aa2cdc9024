/-
  FRunM: what a typist's acts do, as a function. No code of the program in sight.
-/
import Derived.Test.YteepcnfpdmmnhaaFCarriage
import Derived.Test.YteepcnfpdmmnhaaFActs
import Derived.Test.YteepcnfpdmmnhaaAppAt
namespace Go.Proofs.Yteepcnfpdmmnhaa
open Go.RowKit
/-- The width of an act that moves the carriage on. -/
def stepW (k : Int) : Int := if k = 0 ∨ k = 1 then 2 else if k = 3 then 1 else 0
structure TySt where
  at_ : Int
  fr : Bool
  bl : Int
  ls : List TStruck
def tyMove (c : TCarriage) (a : TAct) (s : TySt) (d : Int) : TySt :=
  ⟨s.at_ + d, s.fr, if s.at_ < c.2.2 ∧ c.2.2 ≤ s.at_ + d then s.bl + 1 else s.bl, if a.1 = 0 then s.ls ++ [(s.at_, a.2)] else s.ls⟩
def tyStop (c : TCarriage) (s : TySt) (d : Int) : Prop := (s.fr = false ∧ c.2.1 < s.at_ + d) ∨ 300 < s.at_ + d
def tyStill (c : TCarriage) (a : TAct) (s : TySt) : TySt :=
  if a.1 = 2 then ⟨max (s.at_ - 2) 0, s.fr, s.bl, s.ls⟩ else if a.1 = 4 then ⟨s.at_, true, s.bl, s.ls⟩ else ⟨c.1, false, s.bl, s.ls⟩
open Classical in
noncomputable def tyStep (c : TCarriage) (a : TAct) (s : TySt) : Option TySt :=
  if stepW a.1 = 0 then some (tyStill c a s) else if tyStop c s (stepW a.1) then none else some (tyMove c a s (stepW a.1))
noncomputable def tyGo (c : TCarriage) : List TAct → Nat → TySt → TySt × Int
  | [], _, s => (s, -1)
  | a :: az, i, s => match tyStep c a s with
    | none => (s, (i : Int))
    | some s' => tyGo c az (i + 1) s'
theorem tyGo_stop {c : TCarriage} {xs : List TAct} {i : Nat} {s : TySt} (h : i < xs.length) (hn : tyStep c xs[i] s = none) : tyGo c (xs.drop i) i s = (s, (i : Int)) := by
  rw [List.drop_eq_getElem_cons h]
  unfold tyGo
  rw [hn]
theorem tyGo_next {c : TCarriage} {xs : List TAct} {i : Nat} {s s' : TySt} (h : i < xs.length) (hn : tyStep c xs[i] s = some s') : tyGo c (xs.drop i) i s = tyGo c (xs.drop (i + 1)) (i + 1) s' := by
  rw [List.drop_eq_getElem_cons h]
  conv => lhs; unfold tyGo
  rw [hn]
theorem tyGo_end {c : TCarriage} {xs : List TAct} {i : Nat} {s : TySt} (h : ¬ i < xs.length) : tyGo c (xs.drop i) i s = (s, -1) := by
  rw [List.drop_of_length_le (by omega)]
  rfl
theorem tyStep_move {c : TCarriage} {a : TAct} {s : TySt} {d : Int} (hd : stepW a.1 = d) (h0 : d ≠ 0) (hn : ¬ tyStop c s d) : tyStep c a s = some (tyMove c a s d) := by
  unfold tyStep
  rw [hd, if_neg h0, if_neg hn]
theorem tyStep_stop {c : TCarriage} {a : TAct} {s : TySt} {d : Int} (hd : stepW a.1 = d) (h0 : d ≠ 0) (hn : tyStop c s d) : tyStep c a s = none := by
  unfold tyStep
  rw [hd, if_neg h0, if_pos hn]
theorem tyStep_still {c : TCarriage} {a : TAct} {s : TySt} (hd : stepW a.1 = 0) : tyStep c a s = some (tyStill c a s) := by
  unfold tyStep
  rw [if_pos hd]
structure TyOk (i : Nat) (s : TySt) : Prop where
  a0 : 0 ≤ s.at_
  a9 : s.at_ ≤ 300
  b0 : 0 ≤ s.bl
  b9 : s.bl ≤ i
  l9 : s.ls.length ≤ i
noncomputable def tyRun (c : TCarriage) (xs : List TAct) : TySt × Int := tyGo c xs 0 ⟨c.1, false, 0, []⟩
theorem TyOk.start {c : TCarriage} (h : CarriageOk c) : TyOk 0 ⟨c.1, false, 0, []⟩ := ⟨h.1, h.2.1, Int.le_refl _, by simp, by simp⟩
theorem TyOk.still {c : TCarriage} (h : CarriageOk c) {i : Nat} {s : TySt} (hs : TyOk i s) (a : TAct) : TyOk (i + 1) (tyStill c a s) := by
  obtain ⟨h1, h2, h3, h4, h5⟩ := hs
  obtain ⟨q1, q2, _⟩ := h
  unfold tyStill
  split
  · exact ⟨by show 0 ≤ max (s.at_ - 2) 0; omega, by show max (s.at_ - 2) 0 ≤ 300; omega, h3, by show s.bl ≤ _; omega, by show s.ls.length ≤ _; omega⟩
  · split
    · exact ⟨h1, h2, h3, by show s.bl ≤ _; omega, by show s.ls.length ≤ _; omega⟩
    · exact ⟨q1, q2, h3, by show s.bl ≤ _; omega, by show s.ls.length ≤ _; omega⟩
theorem TyOk.move {c : TCarriage} {i : Nat} {s : TySt} (hs : TyOk i s) (a : TAct) (d : Int) (h0 : 0 ≤ d) (hn : ¬ tyStop c s d) : TyOk (i + 1) (tyMove c a s d) := by
  obtain ⟨h1, h2, h3, h4, h5⟩ := hs
  unfold tyStop at hn
  unfold tyMove
  refine ⟨by show 0 ≤ s.at_ + d; omega, by show s.at_ + d ≤ 300; omega, ?_, ?_, ?_⟩
  · dsimp only; split <;> omega
  · dsimp only; split <;> omega
  · dsimp only; split
    · rw [List.length_append]; simp; omega
    · omega
theorem tyGo_bd {c : TCarriage} (hc : CarriageOk c) : ∀ (az : List TAct) (i : Nat) (s : TySt), TyOk i s → ∃ j, TyOk j (tyGo c az i s).1 ∧ j ≤ i + az.length ∧ -1 ≤ (tyGo c az i s).2 ∧ (tyGo c az i s).2 ≤ i + az.length
  | [], i, s, h => ⟨i, h, by simp, by simp [tyGo], by simp [tyGo] <;> omega⟩
  | a :: az, i, s, h => by
    unfold tyGo
    cases hs : tyStep c a s with
    | none => exact ⟨i, h, by simp, by simp <;> omega, by simp <;> omega⟩
    | some s' =>
      have ho : TyOk (i + 1) s' := by
        unfold tyStep at hs
        split at hs
        · injection hs with hs; subst hs; exact TyOk.still hc h a
        · split at hs
          · cases hs
          · rename_i h1 h2
            injection hs with hs; subst hs; exact h.move a _ (by unfold stepW; split <;> (try split) <;> omega) h2
      obtain ⟨j, h1, h2, h3, h4⟩ := tyGo_bd hc az (i + 1) s' ho
      simp only [List.length_cons]
      exact ⟨j, h1, by omega, h3, by omega⟩
open Classical in
noncomputable def M_BellsOf (c : TCarriage) (xs : List TAct) : Int × Int := if CarriageOk c ∧ ActsOk xs then ((tyRun c xs).1.bl, 0) else (0, 1)
open Classical in
noncomputable def M_LockedAt (c : TCarriage) (xs : List TAct) : Int × Int := if CarriageOk c ∧ ActsOk xs then (if (tyRun c xs).2 < 0 then (0, 3) else ((tyRun c xs).2, 0)) else (0, 1)
open Classical in
noncomputable def M_TypeActs (c : TCarriage) (xs : List TAct) : List TStruck × Int × Int := if CarriageOk c ∧ ActsOk xs then (if (tyRun c xs).2 < 0 then ((tyRun c xs).1.ls, (tyRun c xs).1.at_, 0) else ([], 0, 6)) else ([], 0, 1)
end Go.Proofs.Yteepcnfpdmmnhaa
