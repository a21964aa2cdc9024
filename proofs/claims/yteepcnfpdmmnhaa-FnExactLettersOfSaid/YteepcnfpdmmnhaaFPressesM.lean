/-
  FPresses: the presses for a letter: spec.l02Presses, impl.pressesOf; the code of keys and a text: spec.l02Code.
-/
import Derived.Test.YteepcnfpdmmnhaaFPress
import Derived.Test.YteepcnfpdmmnhaaApps
namespace Go.Proofs.Yteepcnfpdmmnhaa
open Go.RowKit
set_option linter.unusedVariables false
attribute [local go_sem ↓] Go.wp_at_zero Go.wp_at_succ
set_option linter.unusedSimpArgs false
/-- A list of the call's own: the given one; new blocks at most. -/
def RLP {α : Type} (e0 : α → List Value) (s : Nat) (E : TypeId) (m : List α) (w : World) (e : Ending) (w' : World) : Prop :=
  ∃ (v : Value) (ys : List α), e = .returned v ∧ ys = m ∧ ys.length ≤ 1048576 ∧ Own w' w.heap.size E e0 s v ys ∧ Below w.heap.size w w'
theorem RLP.mk {α : Type} {e0 : α → List Value} {s : Nat} {E : TypeId} {m : List α} {v : Value} {ys : List α} {w w' : World} (h : ys = m) (hl : ys.length ≤ 1048576) (ho : Own w' w.heap.size E e0 s v ys) (hb : Below w.heap.size w w') :
    RLP e0 s E m w (.returned v) w' := ⟨v, ys, rfl, h, hl, ho, hb⟩
theorem Own.lit {α : Type} {e : α → List Value} {s : Nat} (w : World) (hs : ∀ x, (e x).length = s) (base : Nat) (E : TypeId) (hb : base ≤ w.heap.size) (ys : List α) (hl : ys.length ≤ maxLen) :
    Own (w.alloc (.cells (ys.flatMap e).toArray E)) base E e s (.slice (some ⟨w.heap.size, 0, none⟩) ys.length ys.length) ys :=
  ⟨hs, World.ownsRow_lit w (ys.flatMap e).toArray ys.length hb hl (by rw [List.size_toArray, flatMap_len hs])⟩
theorem Own.litAt {α : Type} {e : α → List Value} {s : Nat} (w : World) (hs : ∀ x, (e x).length = s) (base : Nat) (E : TypeId) (hb : base ≤ w.heap.size) (ys : List α) (hl : ys.length ≤ maxLen) {g : Nat} (hg : w.heap.size = g) :
    Own (w.alloc (.cells (ys.flatMap e).toArray E)) base E e s (.slice (some ⟨g, 0, none⟩) ys.length ys.length) ys := hg ▸ Own.lit w hs base E hb ys hl
def presGo (ks : List TKey) (ch : ByteArray) : List TAccent → List TPress
  | [] => []
  | a :: az => if a.2.2 = ch then [findL ks a.1, findL ks a.2.1] else presGo ks ch az
noncomputable def presV (ks : List TKey) (az : List TAccent) (ch : ByteArray) : List TPress := if HasL ks ch ∧ ¬ DeadL ks ch then [findL ks ch] else presGo ks ch az
theorem presGo_none (ks : List TKey) (ch : ByteArray) : ∀ az : List TAccent, (∀ a ∈ az, a.2.2 ≠ ch) → presGo ks ch az = []
  | [], _ => rfl
  | a :: az, h => by
    unfold presGo
    rw [if_neg (h a (by simp))]
    exact presGo_none ks ch az (fun b hb => h b (List.mem_cons_of_mem _ hb))
theorem presGo_has {ks : List TKey} {az : List TAccent} (h : AccsUp ks az) {ch : ByteArray} (hc : HasL ks ch) : presGo ks ch az = [] :=
  presGo_none ks ch az (fun a ha hh => by
    obtain ⟨i, hi, rfl⟩ := List.getElem_of_mem ha
    exact (h i hi).1.2.2.1 (by rw [hh]; exact hc))
theorem presGo_len (ks : List TKey) (ch : ByteArray) : ∀ az : List TAccent, (presGo ks ch az).length ≤ 2
  | [] => by simp [presGo]
  | a :: az => by
    unfold presGo
    split
    · simp
    · exact presGo_len ks ch az
theorem presV_len (ks : List TKey) (az : List TAccent) (ch : ByteArray) : (presV ks az ch).length ≤ 2 := by
  unfold presV
  split
  · simp
  · exact presGo_len ks ch az
theorem presV_live {ks : List TKey} {az : List TAccent} {ch : ByteArray} (h : HasL ks ch) (hd : ¬ DeadL ks ch) : presV ks az ch = [findL ks ch] := by unfold presV; rw [if_pos ⟨h, hd⟩]
theorem presV_dead {ks : List TKey} {az : List TAccent} {ch : ByteArray} (hd : DeadL ks ch) : presV ks az ch = presGo ks ch az := by unfold presV; rw [if_neg (fun q => q.2 hd)]
theorem presV_not {ks : List TKey} {az : List TAccent} {ch : ByteArray} (hd : ¬ HasL ks ch) : presV ks az ch = presGo ks ch az := by unfold presV; rw [if_neg (fun q => hd q.1)]
theorem pg_step (ks : List TKey) (ch : ByteArray) (az : List TAccent) (k : Nat) (h : k < az.length) : presGo ks ch (az.drop k) = if az[k].2.2 = ch then [findL ks az[k].1, findL ks az[k].2.1] else presGo ks ch (az.drop (k + 1)) := by
  rw [List.drop_eq_getElem_cons h]; rfl
theorem find_has {ks : List TKey} {ch : ByteArray} (h : HasL ks ch) : ∃ i, ∃ _ : i < ks.length, ∃ s : Bool, findL ks ch = ((i : Int), s) ∧ InK ks[i] ch := by
  rcases findL_cases ks ch with ⟨_, q⟩ | ⟨i, hi, s, q1, q2, _⟩
  · exact absurd h q
  · exact ⟨i, hi, s, q1, q2⟩
theorem find_not {ks : List TKey} {ch : ByteArray} (h : ¬ HasL ks ch) : findL ks ch = (-1, false) := by
  rcases findL_cases ks ch with ⟨q, _⟩ | ⟨i, hi, s, q1, q2, _⟩
  · exact q
  · exact absurd ⟨_, List.getElem_mem hi, q2⟩ h
end Go.Proofs.Yteepcnfpdmmnhaa
