/-
  Data: the struct types of the laws as Lean data. Printed by wip/gen_types.py.
-/
import Derived.Test.YtampmnicnomknaaBase
import Derived.Test.YtampmnicnomknaaRows
import Derived.WalkSpells
import Derived.WalkLawsBesides
import Derived.Deep.RegionHeld3
import Derived.Deep.DrawnRows
import Derived.Deep.LoopGhost
import Derived.Deep.QuietTactic
import Derived.BigQuiet
namespace Go.Proofs.Ytampmnicnomknaa
open Go.RowKit
set_option linter.unusedVariables false
attribute [local go_sem ↓] Go.wp_at_zero Go.wp_at_succ
abbrev TPress := Int × Bool
abbrev encPress : TPress → List Value := fun x => [.int .i64 x.1, .bool x.2]
abbrev TKey := ByteArray × ByteArray × Bool
abbrev encKey : TKey → List Value := fun x => [.string x.1, .string x.2.1, .bool x.2.2]
abbrev TAccent := ByteArray × ByteArray × ByteArray
abbrev encAccent : TAccent → List Value := fun x => [.string x.1, .string x.2.1, .string x.2.2]
abbrev TStroke := Int × Int
abbrev encStroke : TStroke → List Value := fun x => [.int .i64 x.1, .int .i64 x.2]
abbrev TAct := Int × ByteArray
abbrev encAct : TAct → List Value := fun x => [.int .i64 x.1, .string x.2]
abbrev TStruck := Int × ByteArray
abbrev encStruck : TStruck → List Value := fun x => [.int .i64 x.1, .string x.2]
abbrev TPlace := Int × Int × Int
abbrev encPlace : TPlace → List Value := fun x => [.int .i64 x.1, .int .i64 x.2.1, .int .i64 x.2.2]
abbrev TBasket := Int × Int × Int × Int × Int
abbrev encBasket : TBasket → List Value := fun x => [.int .i64 x.1, .int .i64 x.2.1, .int .i64 x.2.2.1, .int .i64 x.2.2.2.1, .int .i64 x.2.2.2.2]
abbrev TCarriage := Int × Int × Int
abbrev encCarriage : TCarriage → List Value := fun x => [.int .i64 x.1, .int .i64 x.2.1, .int .i64 x.2.2]
abbrev okPress : TPress → Prop := fun x => I64 x.1 ∧ True
abbrev KPress : TPress → Prop := fun x => I64 x.1
theorem KPress_of {x : TPress} (h : okPress x) : KPress x := by
  unfold okPress at h; unfold KPress; exact h.1
abbrev okKey : TKey → Prop := fun x => x.1.size ≤ maxLen ∧ x.2.1.size ≤ maxLen ∧ True
abbrev KKey : TKey → Prop := fun x => x.1.size ≤ 1048576 ∧ x.2.1.size ≤ 1048576
theorem KKey_of {x : TKey} (h : okKey x) (hs : x.1.size ≤ 1048576 ∧ x.2.1.size ≤ 1048576) : KKey x := by
  unfold okKey at h; unfold KKey; exact hs
theorem szokKey {xs : List TKey} (h : ∀ x ∈ xs, okKey x) : ∀ x ∈ xs, x.1.size ≤ maxLen ∧ x.2.1.size ≤ maxLen := fun x hx => by have := h x hx; unfold okKey at this; exact ⟨this.1, this.2.1⟩
abbrev okAccent : TAccent → Prop := fun x => x.1.size ≤ maxLen ∧ x.2.1.size ≤ maxLen ∧ x.2.2.size ≤ maxLen
abbrev KAccent : TAccent → Prop := fun x => x.1.size ≤ 1048576 ∧ x.2.1.size ≤ 1048576 ∧ x.2.2.size ≤ 1048576
theorem KAccent_of {x : TAccent} (h : okAccent x) (hs : x.1.size ≤ 1048576 ∧ x.2.1.size ≤ 1048576 ∧ x.2.2.size ≤ 1048576) : KAccent x := by
  unfold okAccent at h; unfold KAccent; exact hs
theorem szokAccent {xs : List TAccent} (h : ∀ x ∈ xs, okAccent x) : ∀ x ∈ xs, x.1.size ≤ maxLen ∧ x.2.1.size ≤ maxLen ∧ x.2.2.size ≤ maxLen := fun x hx => by have := h x hx; unfold okAccent at this; exact this
abbrev okStroke : TStroke → Prop := fun x => I64 x.1 ∧ I64 x.2
abbrev KStroke : TStroke → Prop := fun x => I64 x.1 ∧ I64 x.2
theorem KStroke_of {x : TStroke} (h : okStroke x) : KStroke x := by
  unfold okStroke at h; unfold KStroke; exact h
abbrev okAct : TAct → Prop := fun x => I64 x.1 ∧ x.2.size ≤ maxLen
abbrev KAct : TAct → Prop := fun x => I64 x.1 ∧ x.2.size ≤ 1048576
theorem KAct_of {x : TAct} (h : okAct x) (hs : x.2.size ≤ 1048576) : KAct x := by
  unfold okAct at h; unfold KAct; exact ⟨h.1, hs⟩
theorem szokAct {xs : List TAct} (h : ∀ x ∈ xs, okAct x) : ∀ x ∈ xs, x.2.size ≤ maxLen := fun x hx => by have := h x hx; unfold okAct at this; exact this.2
abbrev okStruck : TStruck → Prop := fun x => I64 x.1 ∧ x.2.size ≤ maxLen
abbrev KStruck : TStruck → Prop := fun x => I64 x.1 ∧ x.2.size ≤ 1048576
theorem KStruck_of {x : TStruck} (h : okStruck x) (hs : x.2.size ≤ 1048576) : KStruck x := by
  unfold okStruck at h; unfold KStruck; exact ⟨h.1, hs⟩
theorem szokStruck {xs : List TStruck} (h : ∀ x ∈ xs, okStruck x) : ∀ x ∈ xs, x.2.size ≤ maxLen := fun x hx => by have := h x hx; unfold okStruck at this; exact this.2
abbrev okPlace : TPlace → Prop := fun x => I64 x.1 ∧ I64 x.2.1 ∧ I64 x.2.2
abbrev KPlace : TPlace → Prop := fun x => I64 x.1 ∧ I64 x.2.1 ∧ I64 x.2.2
theorem KPlace_of {x : TPlace} (h : okPlace x) : KPlace x := by
  unfold okPlace at h; unfold KPlace; exact h
abbrev okBasket : TBasket → Prop := fun x => I64 x.1 ∧ I64 x.2.1 ∧ I64 x.2.2.1 ∧ I64 x.2.2.2.1 ∧ I64 x.2.2.2.2
abbrev KBasket : TBasket → Prop := fun x => I64 x.1 ∧ I64 x.2.1 ∧ I64 x.2.2.1 ∧ I64 x.2.2.2.1 ∧ I64 x.2.2.2.2
theorem KBasket_of {x : TBasket} (h : okBasket x) : KBasket x := by
  unfold okBasket at h; unfold KBasket; exact h
abbrev okCarriage : TCarriage → Prop := fun x => I64 x.1 ∧ I64 x.2.1 ∧ I64 x.2.2
abbrev KCarriage : TCarriage → Prop := fun x => I64 x.1 ∧ I64 x.2.1 ∧ I64 x.2.2
theorem KCarriage_of {x : TCarriage} (h : okCarriage x) : KCarriage x := by
  unfold okCarriage at h; unfold KCarriage; exact h
/-- The struct lies in block b. -/
abbrev AtBasket (w : World) (b : Nat) (x : TBasket) : Prop := b < w.heap.size ∧ w.cell? ⟨b, 0, none⟩ = some (.int .i64 x.1) ∧ w.cell? ⟨b, 1, none⟩ = some (.int .i64 x.2.1) ∧ w.cell? ⟨b, 2, none⟩ = some (.int .i64 x.2.2.1) ∧ w.cell? ⟨b, 3, none⟩ = some (.int .i64 x.2.2.2.1) ∧ w.cell? ⟨b, 4, none⟩ = some (.int .i64 x.2.2.2.2)
theorem AtBasket.next {w w' : World} {b : Nat} {x : TBasket} (h : AtBasket w b x) (hb : Below w.heap.size w w') : AtBasket w' b x :=
  ⟨Nat.lt_of_lt_of_le h.1 hb.size, (hb.cell (p := ⟨b, 0, none⟩) h.1).trans h.2.1, (hb.cell (p := ⟨b, 1, none⟩) h.1).trans h.2.2.1, (hb.cell (p := ⟨b, 2, none⟩) h.1).trans h.2.2.2.1, (hb.cell (p := ⟨b, 3, none⟩) h.1).trans h.2.2.2.2.1, (hb.cell (p := ⟨b, 4, none⟩) h.1).trans h.2.2.2.2.2⟩
theorem AtBasket.new (w : World) (T : TypeId) (x : TBasket) : AtBasket (w.alloc (.cells #[.int .i64 x.1, .int .i64 x.2.1, .int .i64 x.2.2.1, .int .i64 x.2.2.2.1, .int .i64 x.2.2.2.2] T)) w.heap.size x :=
  ⟨by simp, by simp [go_sem], by simp [go_sem], by simp [go_sem], by simp [go_sem], by simp [go_sem]⟩
/-- The struct lies in block b. -/
abbrev AtCarriage (w : World) (b : Nat) (x : TCarriage) : Prop := b < w.heap.size ∧ w.cell? ⟨b, 0, none⟩ = some (.int .i64 x.1) ∧ w.cell? ⟨b, 1, none⟩ = some (.int .i64 x.2.1) ∧ w.cell? ⟨b, 2, none⟩ = some (.int .i64 x.2.2)
theorem AtCarriage.next {w w' : World} {b : Nat} {x : TCarriage} (h : AtCarriage w b x) (hb : Below w.heap.size w w') : AtCarriage w' b x :=
  ⟨Nat.lt_of_lt_of_le h.1 hb.size, (hb.cell (p := ⟨b, 0, none⟩) h.1).trans h.2.1, (hb.cell (p := ⟨b, 1, none⟩) h.1).trans h.2.2.1, (hb.cell (p := ⟨b, 2, none⟩) h.1).trans h.2.2.2⟩
theorem AtCarriage.new (w : World) (T : TypeId) (x : TCarriage) : AtCarriage (w.alloc (.cells #[.int .i64 x.1, .int .i64 x.2.1, .int .i64 x.2.2] T)) w.heap.size x :=
  ⟨by simp, by simp [go_sem], by simp [go_sem], by simp [go_sem]⟩
abbrev encInt : Int → List Value := fun x => [.int .i64 x]
abbrev encStr : ByteArray → List Value := fun x => [.string x]
abbrev encSl : Sl Int → List Value := fun q => [.slice q.A q.xs.length q.c]
abbrev okInt64S : Int → Prop := I64
abbrev KInt64S : Int → Prop := I64
theorem KInt64S_of {x : Int} (h : okInt64S x) : KInt64S x := h
abbrev okStringS : ByteArray → Prop := fun x => x.size ≤ maxLen
abbrev KStringS : ByteArray → Prop := fun x => x.size ≤ 1048576
end Go.Proofs.Ytampmnicnomknaa
