/-
  Base: small words on memory for the laws of this program: a slice that reads as a typed list (Row), a slice of the call's own (Own),
  how an argument opens, how a law's row is closed. No program in sight.
-/
import Derived.WalkKit
import Derived.ProofKit
import Derived.OpenShut
import Derived.Lib.Hide
import Derived.Deep.Slices
import Derived.Deep.Fields
import Derived.Maps.AppendAt
import Derived.Deep.Draws
import Derived.Deep.QuietTactic
import Derived.BigQuiet
namespace Go.Proofs.Ytampmnicnomknaa
open Go.RowKit Go.ChangeShapes Go.WideShapes Go.Deep

/-! ### Worlds -/
theorem bcell {W w1 : World} (hb : Below W.heap.size W w1) : (∀ b o, b < W.heap.size → w1.cell? ⟨b, o, none⟩ = W.cell? ⟨b, o, none⟩) ∧ (∀ b o, b < W.heap.size → w1.frozen? ⟨b, o, none⟩ = W.frozen? ⟨b, o, none⟩) :=
  ⟨fun b o h => hb.cell (p := ⟨b, o, none⟩) h, fun b o h => hb.frozen (p := ⟨b, o, none⟩) h⟩
theorem bdrewN {B : Nat} {a w : World} (h : Below B a w) (n : Nat) : Below B a (w.drewN n) := ⟨h.os, h.tape, h.output, h.size, h.block⟩
/-- Two steps, the second below a later size. -/
theorem bnext {W a b : World} (h : Below W.heap.size W a) (k : Below a.heap.size a b) : Below W.heap.size W b := h.trans (k.mono h.size)
theorem grown_of_below {a w : World} (h : Below a.heap.size a w) (row : Option Nat) : a.grownBy w row := ⟨h.os, h.tape, h.output, h.size, fun i hi _ => h.block i hi⟩

theorem bal {a w : World} (h : Below a.heap.size a w) (o : Obj) : Below a.heap.size a (w.alloc o) := h.alloc h.size o
theorem bdr {a w : World} (h : Below a.heap.size a w) : Below a.heap.size a w.drew := h.drew
theorem bst {a w : World} (h : Below a.heap.size a w) {p : Addr} (hp : a.heap.size ≤ p.block) (u : Value) : Below a.heap.size a (w.setCell p u) := h.setCell hp u

/-! ### make with elements of several cells -/
theorem run_make_rowN {P : Program} (t e : TypeId) (i : TypeInfo) (z : Value) (ht : P.underlying t = some (.slice e)) (hi : P.info? e = some i) (hz : i.zero = some z)
    (kl kc : IntKind) (n c : Nat) (hnc : n ≤ c) (hbytes : i.bytes * c ≤ 281474976710656) (h63 : c ≤ 9223372036854775807) (w : World) :
    (Instr.makeSlice t (.int kl (n : Int)) (.int kc (c : Int))).run P w = .ok (.slice (some ⟨w.heap.size, 0, none⟩) n c) (w.alloc (.cells (madeCells z.cells (c * i.size)) e)) := by
  have hb : (i.bytes : Int) * (c : Int) ≤ 281474976710656 := by
    have h : ((i.bytes * c : Nat) : Int) ≤ 281474976710656 := by omega
    rwa [Int.natCast_mul] at h
  have hr := run_make (P := P) w t e i z ht hi hz kl kc n c (by omega) (by omega) hb (by omega)
  simp only [Int.toNat_natCast] at hr
  exact hr
theorem madeCells_flat {α : Type} (e : α → List Value) (z : α) (s n : Nat) (hs : (e z).length = s) : (madeCells (e z).toArray (n * s)).toList = (List.replicate n z).flatMap e := by
  apply List.ext_getElem?
  intro j
  rcases Nat.eq_zero_or_pos s with h0 | h0
  · subst h0
    have : e z = [] := List.eq_nil_of_length_eq_zero hs
    simp [madeCells, this]
  by_cases hj : j < n * s
  · have hm : j % s < s := Nat.mod_lt _ h0
    have hd : j / s < n := by rw [Nat.div_lt_iff_lt_mul h0]; exact hj
    have h1 : ((List.replicate n z).flatMap e)[j / s * s + j % s]? = (e z)[j % s]? := by
      have hl : ∀ (n k : Nat), k < n → ((List.replicate n z).flatMap e)[k * s + j % s]? = (e z)[j % s]? := by
        intro n
        induction n with
        | zero => intro k hk; omega
        | succ n ih =>
          intro k hk
          rw [List.replicate_succ, List.flatMap_cons]
          rcases k with _ | k
          · rw [Nat.zero_mul, Nat.zero_add, List.getElem?_append_left (by rw [hs]; exact hm)]
          · rw [List.getElem?_append_right (by rw [hs, Nat.add_mul]; omega), hs, show (k + 1) * s + j % s - s = k * s + j % s from by rw [Nat.add_mul]; omega]
            exact ih k (by omega)
      exact hl n (j / s) hd
    rw [show j / s * s + j % s = j from by rw [Nat.mul_comm]; exact Nat.div_add_mod j s] at h1
    rw [h1]
    have hm' : j % (e z).length < (e z).length := by rw [hs]; exact hm
    simp [madeCells, hj, hs]
    rw [List.getElem?_eq_getElem (by rw [hs]; exact hm)]
    simp
  · have hl2 : ((List.replicate n z).flatMap e).length = n * s := by simp [List.length_flatMap, hs]
    rw [List.getElem?_eq_none (by simp [size_madeCells]; omega), List.getElem?_eq_none (by rw [hl2]; omega)]

/-! ### The first that fails -/
theorem ff1 (p : Prop) : ¬ p ∨ p := (Classical.em p).symm
theorem ff2 (p q : Prop) : ¬ p ∨ (p ∧ ¬ q) ∨ (p ∧ q) := (ff1 p).imp_right fun hp => (ff1 q).imp (⟨hp, ·⟩) (⟨hp, ·⟩)
theorem ff3 (p q r : Prop) : ¬ p ∨ (p ∧ ¬ q) ∨ (p ∧ q ∧ ¬ r) ∨ (p ∧ q ∧ r) := (ff1 p).imp_right fun hp => (ff2 q r).imp (⟨hp, ·⟩) (·.imp (⟨hp, ·⟩) (⟨hp, ·⟩))
theorem ff4 (p q r s : Prop) : ¬ p ∨ (p ∧ ¬ q) ∨ (p ∧ q ∧ ¬ r) ∨ (p ∧ q ∧ r ∧ ¬ s) ∨ (p ∧ q ∧ r ∧ s) := (ff1 p).imp_right fun hp => (ff3 q r s).imp (⟨hp, ·⟩) (·.imp (⟨hp, ·⟩) (·.imp (⟨hp, ·⟩) (⟨hp, ·⟩)))

theorem ss2 (p q : Prop) : p ∨ (¬ p ∧ q) ∨ (¬ p ∧ ¬ q) := (Classical.em p).imp_right fun hp => (Classical.em q).imp (⟨hp, ·⟩) (⟨hp, ·⟩)
theorem ss3 (p q r : Prop) : p ∨ (¬ p ∧ q) ∨ (¬ p ∧ ¬ q ∧ r) ∨ (¬ p ∧ ¬ q ∧ ¬ r) := (Classical.em p).imp_right fun hp => (ss2 q r).imp (⟨hp, ·⟩) (·.imp (⟨hp, ·⟩) (⟨hp, ·⟩))
theorem nott {p : Prop} (h : ¬ p) : false = true ↔ p := ⟨fun hh => (by cases hh), fun hh => absurd hh h⟩
theorem yest {p : Prop} (h : p) : true = true ↔ p := ⟨fun _ => h, fun _ => rfl⟩

/-! ### Quiet calls -/
theorem quiet_left {P : Program} {f : FuncId} {args : Array Value} {w : World} {n : Nat} {v : Value}
    (h : Calls P f args (w.drewN n) fun e w' => e = .returned v ∧ w.drewN n = w') : Calls P f args (w.drewN n) fun e w'' => e = .returned v ∧ ∃ m, w'' = w.drewN m :=
  h.mono fun _ _ ⟨he, hm⟩ => ⟨he, n, hm.symm⟩
theorem quiet_add_left {P : Program} {f : FuncId} {args : Array Value} {w : World} {a n : Nat} {v : Value}
    (h : Calls P f args (w.drewN (a + n)) fun e w' => e = .returned v ∧ w.drewN (a + n) = w') :
    Calls P f args (w.drewN (a + n)) fun e w'' => e = .returned v ∧ ∃ m, w'' = w.drewN (a + m) :=
  h.mono fun _ _ ⟨he, hm⟩ => ⟨he, n, hm.symm⟩

/-! ### Posts behind a name (the walk's simp does not look behind it) -/
/-- A bool that says p; the world as it was. -/
def RB (p : Prop) (w : World) (e : Ending) (w' : World) : Prop := ∃ b : Bool, e = .returned (.bool b) ∧ (b = true ↔ p) ∧ w = w'
/-- A bool that says p; new blocks at most. -/
def RBb (p : Prop) (w : World) (e : Ending) (w' : World) : Prop := ∃ b : Bool, e = .returned (.bool b) ∧ (b = true ↔ p) ∧ Below w.heap.size w w'
theorem RB.yes {P : Program} {f : FuncId} {args : Array Value} {p : Prop} {w w0 : World} (h : Calls P f args w (RB p w0)) (hp : p) : Calls P f args w fun e w' => e = .returned (.bool true) ∧ w0 = w' :=
  h.mono fun _ _ ⟨_, he, hb, hw⟩ => ⟨by rw [he, hb.2 hp], hw⟩
theorem RB.no {P : Program} {f : FuncId} {args : Array Value} {p : Prop} {w w0 : World} (h : Calls P f args w (RB p w0)) (hp : ¬ p) : Calls P f args w fun e w' => e = .returned (.bool false) ∧ w0 = w' :=
  h.mono fun _ _ ⟨_, he, hb, hw⟩ => ⟨by rw [he, Bool.eq_false_iff.2 (fun hh => hp (hb.1 hh))], hw⟩
theorem RBb.yes {P : Program} {f : FuncId} {args : Array Value} {p : Prop} {w w0 : World} (h : Calls P f args w (RBb p w0)) (hp : p) : Calls P f args w fun e w' => e = .returned (.bool true) ∧ Below w0.heap.size w0 w' :=
  h.mono fun _ _ ⟨_, he, hb, hw⟩ => ⟨by rw [he, hb.2 hp], hw⟩
theorem RBb.no {P : Program} {f : FuncId} {args : Array Value} {p : Prop} {w w0 : World} (h : Calls P f args w (RBb p w0)) (hp : ¬ p) : Calls P f args w fun e w' => e = .returned (.bool false) ∧ Below w0.heap.size w0 w' :=
  h.mono fun _ _ ⟨_, he, hb, hw⟩ => ⟨by rw [he, Bool.eq_false_iff.2 (fun hh => hp (hb.1 hh))], hw⟩
/-- Results that are the given ones; new blocks at most. -/
def RI1 (m : Int) (w : World) (e : Ending) (w' : World) : Prop := ∃ n : Int, e = .returned (.int .i64 n) ∧ n = m ∧ Below w.heap.size w w'
def RI2 (m : Int × Int) (w : World) (e : Ending) (w' : World) : Prop := ∃ n0 n1 : Int, e = .returned (.tuple #[.int .i64 n0, .int .i64 n1]) ∧ (n0, n1) = m ∧ Below w.heap.size w w'
def RI3 (m : Int × Int × Int) (w : World) (e : Ending) (w' : World) : Prop := ∃ n0 n1 n2 : Int, e = .returned (.tuple #[.int .i64 n0, .int .i64 n1, .int .i64 n2]) ∧ (n0, n1, n2) = m ∧ Below w.heap.size w w'
def RS1 (m : ByteArray) (w : World) (e : Ending) (w' : World) : Prop := ∃ s : ByteArray, e = .returned (.string s) ∧ s = m ∧ Below w.heap.size w w'
def RSI (m : ByteArray × Int) (w : World) (e : Ending) (w' : World) : Prop := ∃ (s : ByteArray) (n : Int), e = .returned (.tuple #[.string s, .int .i64 n]) ∧ (s, n) = m ∧ Below w.heap.size w w'
def RBI (m : Bool × Int) (w : World) (e : Ending) (w' : World) : Prop := ∃ (b : Bool) (n : Int), e = .returned (.tuple #[.bool b, .int .i64 n]) ∧ (b, n) = m ∧ Below w.heap.size w w'
theorem RI1.mk {m n : Int} {w w' : World} (h : n = m) (hb : Below w.heap.size w w') : RI1 m w (.returned (.int .i64 n)) w' := ⟨n, rfl, h, hb⟩
theorem RI2.mk {m : Int × Int} {n0 n1 : Int} {w w' : World} (h : (n0, n1) = m) (hb : Below w.heap.size w w') : RI2 m w (.returned (.tuple #[.int .i64 n0, .int .i64 n1])) w' := ⟨n0, n1, rfl, h, hb⟩
theorem RI3.mk {m : Int × Int × Int} {n0 n1 n2 : Int} {w w' : World} (h : (n0, n1, n2) = m) (hb : Below w.heap.size w w') : RI3 m w (.returned (.tuple #[.int .i64 n0, .int .i64 n1, .int .i64 n2])) w' := ⟨n0, n1, n2, rfl, h, hb⟩
theorem RS1.mk {m s : ByteArray} {w w' : World} (h : s = m) (hb : Below w.heap.size w w') : RS1 m w (.returned (.string s)) w' := ⟨s, rfl, h, hb⟩
theorem RSI.mk {m : ByteArray × Int} {s : ByteArray} {n : Int} {w w' : World} (h : (s, n) = m) (hb : Below w.heap.size w w') : RSI m w (.returned (.tuple #[.string s, .int .i64 n])) w' := ⟨s, n, rfl, h, hb⟩
theorem RBI.mk {m : Bool × Int} {b : Bool} {n : Int} {w w' : World} (h : (b, n) = m) (hb : Below w.heap.size w w') : RBI m w (.returned (.tuple #[.bool b, .int .i64 n])) w' := ⟨b, n, rfl, h, hb⟩
theorem RB.mk {p : Prop} {w : World} {b : Bool} (h : b = true ↔ p) : RB p w (.returned (.bool b)) w := ⟨b, rfl, h, rfl⟩
theorem RBb.mk {p : Prop} {w w' : World} {b : Bool} (h : b = true ↔ p) (hb : Below w.heap.size w w') : RBb p w (.returned (.bool b)) w' := ⟨b, rfl, h, hb⟩

theorem ret_int {k : IntKind} {a b : Int} (h : a = b) : Ending.returned (.int k a) = .returned (.int k b) := by rw [h]
theorem ret_bool {a b : Bool} (h : a = b) : Ending.returned (.bool a) = .returned (.bool b) := by rw [h]
theorem ret_str {a b : ByteArray} (h : a = b) : Ending.returned (.string a) = .returned (.string b) := by rw [h]

/-! ### Strings: the walk compares their lists of bytes -/
theorem tl_data (s : ByteArray) : s.toList = s.data.toList := ByteArray.toList_eq s
theorem tl_eq {x y : ByteArray} : x.toList = y.toList ↔ x = y := by
  constructor
  · intro h
    rw [tl_data, tl_data] at h
    exact bytes_inj h
  · rintro rfl; rfl

theorem str_empty {s : ByteArray} (h : s.size = 0) : s.toList.isEmpty = true ∧ s.toList = [] := by
  have : s.toList = [] := by
    rw [tl_data]
    exact List.eq_nil_of_length_eq_zero (by simpa using h)
  simp [this]
theorem str_some {s : ByteArray} (h : 0 < s.size) : s.toList.isEmpty = false ∧ ¬ s.toList = [] := by
  have : ¬ s.toList = [] := by
    rw [tl_data]
    intro hh
    have h2 : s.data.toList.length = s.size := by simp
    rw [hh] at h2
    simp at h2
    omega
  exact ⟨by simpa using this, this⟩

/-! ### A slice that reads as a typed list -/
def Row {α : Type} (w : World) (A : Option Addr) (e : α → List Value) (s : Nat) (xs : List α) : Prop :=
  xs ≠ [] → ∃ b off, A = some ⟨b, off, none⟩ ∧ b < w.heap.size ∧ ∀ k x, xs[k]? = some x → ∀ j u, (e x)[j]? = some u → w.cell? ⟨b, off + (k * s + j), none⟩ = some u

section
variable {α : Type} {w w' : World} {A : Option Addr} {e : α → List Value} {s : Nat} {xs : List α}
theorem Row.nil : Row w A e s [] := fun h => absurd rfl h
theorem Row.below (h : Row w A e s xs) (hb : Below w.heap.size w w') : Row w' A e s xs := by
  intro hne
  obtain ⟨b, off, rfl, hlt, hc⟩ := h hne
  exact ⟨b, off, rfl, Nat.lt_of_lt_of_le hlt hb.size, fun k x hx j u hu => (hb.cell (p := ⟨b, _, none⟩) hlt).trans (hc k x hx j u hu)⟩
theorem Row.drew (h : Row w A e s xs) : Row w.drew A e s xs := h
theorem Row.at_ (h : Row w A e s xs) {k : Nat} (hk : k < xs.length) :
    ∃ b off, A = some ⟨b, off, none⟩ ∧ b < w.heap.size ∧ ∀ j u, (e xs[k])[j]? = some u → w.cell? ⟨b, off + (k * s + j), none⟩ = some u := by
  obtain ⟨b, off, hA, hlt, hc⟩ := h (by intro h0; subst h0; simp at hk)
  exact ⟨b, off, hA, hlt, fun j u hu => hc k _ (List.getElem?_eq_getElem hk) j u hu⟩
/-- Elements of one, two, three cells, in the walk's own spelling. -/
theorem Row.at1 {f : α → Value} (h : Row w A (fun x => [f x]) 1 xs) {k : Nat} (hk : k < xs.length) :
    ∃ b off, A = some ⟨b, off, none⟩ ∧ b < w.heap.size ∧ w.cell? ⟨b, off + k, none⟩ = some (f xs[k]) := by
  obtain ⟨b, off, hA, hlt, hc⟩ := h.at_ hk
  exact ⟨b, off, hA, hlt, by have := hc 0 _ rfl; simpa using this⟩
theorem Row.at2 {f g : α → Value} (h : Row w A (fun x => [f x, g x]) 2 xs) {k : Nat} (hk : k < xs.length) :
    ∃ b off, A = some ⟨b, off, none⟩ ∧ b < w.heap.size ∧ w.cell? ⟨b, off + k * 2, none⟩ = some (f xs[k]) ∧ w.cell? ⟨b, off + k * 2 + 1, none⟩ = some (g xs[k]) := by
  obtain ⟨b, off, hA, hlt, hc⟩ := h.at_ hk
  exact ⟨b, off, hA, hlt, hc 0 _ rfl, hc 1 _ rfl⟩
theorem Row.at3 {f g i : α → Value} (h : Row w A (fun x => [f x, g x, i x]) 3 xs) {k : Nat} (hk : k < xs.length) :
    ∃ b off, A = some ⟨b, off, none⟩ ∧ b < w.heap.size ∧ w.cell? ⟨b, off + k * 3, none⟩ = some (f xs[k]) ∧ w.cell? ⟨b, off + k * 3 + 1, none⟩ = some (g xs[k]) ∧ w.cell? ⟨b, off + k * 3 + 2, none⟩ = some (i xs[k]) := by
  obtain ⟨b, off, hA, hlt, hc⟩ := h.at_ hk
  exact ⟨b, off, hA, hlt, hc 0 _ rfl, hc 1 _ rfl, hc 2 _ rfl⟩

/-! ### A slice of the call's own -/
theorem flatMap_get (hs : ∀ x, (e x).length = s) : ∀ (xs : List α) (k j : Nat) (x : α), xs[k]? = some x → j < s → (xs.flatMap e)[k * s + j]? = (e x)[j]?
  | [], _, _, _, h, _ => by simp at h
  | y :: ys, 0, j, x, h, hj => by
    simp only [List.getElem?_cons_zero, Option.some.injEq] at h
    subst h
    rw [List.flatMap_cons, Nat.zero_mul, Nat.zero_add, List.getElem?_append_left (by rw [hs]; exact hj)]
  | y :: ys, k + 1, j, x, h, hj => by
    rw [List.flatMap_cons, List.getElem?_append_right (by rw [hs, Nat.add_mul]; omega), hs,
      show (k + 1) * s + j - s = k * s + j from by rw [Nat.add_mul]; omega]
    exact flatMap_get hs ys k j x (by simpa using h) hj
theorem flatMap_len (hs : ∀ x, (e x).length = s) : ∀ (xs : List α), (xs.flatMap e).length = xs.length * s
  | [] => by simp
  | y :: ys => by rw [List.flatMap_cons, List.length_append, hs, flatMap_len hs ys, List.length_cons, Nat.add_mul]; omega
theorem flatMap_set (hs : ∀ x, (e x).length = s) : ∀ (xs : List α) (k j : Nat) (x : α) (u : Value) (x' : α), xs[k]? = some x → j < s → e x' = (e x).set j u → (xs.flatMap e).set (k * s + j) u = (xs.set k x').flatMap e
  | [], _, _, _, _, _, h, _, _ => by simp at h
  | y :: ys, 0, j, x, u, x', h, hj, he => by
    simp only [List.getElem?_cons_zero, Option.some.injEq] at h
    subst h
    rw [List.set_cons_zero, List.flatMap_cons, List.flatMap_cons, he, Nat.zero_mul, Nat.zero_add, List.set_append_left _ _ (by rw [hs]; exact hj)]
  | y :: ys, k + 1, j, x, u, x', h, hj, he => by
    rw [List.set_cons_succ, List.flatMap_cons, List.flatMap_cons, List.set_append_right _ _ (by rw [hs, Nat.add_mul]; omega), hs,
      show (k + 1) * s + j - s = k * s + j from by rw [Nat.add_mul]; omega, flatMap_set hs ys k j x u x' (by simpa using h) hj he]

def Own (w : World) (base : Nat) (E : TypeId) (e : α → List Value) (s : Nat) (v : Value) (xs : List α) : Prop :=
  (∀ x, (e x).length = s) ∧ w.ownsRow base E s v xs.length (xs.flatMap e)
variable {base : Nat} {E : TypeId} {v : Value}
theorem Own.enc_len (h : Own w base E e s v xs) : ∀ x, (e x).length = s := h.1
theorem Own.row_ (h : Own w base E e s v xs) : w.ownsRow base E s v xs.length (xs.flatMap e) := h.2
theorem Own.below (h : Own w base E e s v xs) (hb : Below w.heap.size w w') : Own w' base E e s v xs :=
  ⟨h.1, h.2.kept (grown_of_below hb none) (by cases v.ownBlock <;> simp)⟩
theorem Own.mono {base' : Nat} (h : Own w base E e s v xs) (hb : base' ≤ base) : Own w base' E e s v xs := by
  obtain ⟨h0, h1, h2⟩ := h
  refine ⟨h0, h1, ?_⟩
  rcases h2 with h2 | ⟨g, cap, cur, hv, hg, r⟩
  · exact .inl h2
  · exact .inr ⟨g, cap, cur, hv, by omega, r⟩
/-- The value written out; it reads as a row; where it lies. -/
theorem Own.form (h : Own w base E e s v xs) : ∃ A c, v = .slice A xs.length c ∧ Row w A e s xs ∧ (∀ g, v.ownBlock = some g → base ≤ g ∧ g < w.heap.size) := by
  obtain ⟨h0, h1, h2⟩ := h
  have hlt := World.ownsRow.lt ⟨h1, h2⟩
  rcases h2 with ⟨rfl, hn⟩ | ⟨g, cap, cur, rfl, hg, hh, hnc, hcm, hcs, htk⟩
  · refine ⟨none, 0, by rw [hn], ?_, hlt⟩
    have : xs = [] := List.eq_nil_of_length_eq_zero hn
    subst this
    exact Row.nil
  · refine ⟨some ⟨g, 0, none⟩, cap, rfl, ?_, hlt⟩
    intro _
    refine ⟨g, 0, rfl, (hlt g rfl).2, fun k x hx j u hu => ?_⟩
    have hj : j < s := by rw [← h0 x]; exact (List.getElem?_eq_some_iff.1 hu).1
    have hu' := (flatMap_get h0 xs k j x hx hj).trans hu
    have hcell := World.ownsRow.cells (w := w) (base := base) (e := E) (size := s) (v := .slice (some ⟨g, 0, none⟩) xs.length cap) (n := xs.length) (xs := xs.flatMap e) ⟨h1, .inr ⟨g, cap, cur, rfl, hg, hh, hnc, hcm, hcs, htk⟩⟩ (g := g) rfl (k * s + j) u hu'
    have hadd : (⟨g, 0, none⟩ : Addr).add (k * s + j) = ⟨g, 0 + (k * s + j), none⟩ := by
      unfold Addr.add
      split
      · simp_all
      · rfl
    rwa [hadd] at hcell
theorem Own.made (w : World) (hs : ∀ x, (e x).length = s) (base : Nat) (E : TypeId) (z : α) (n : Nat) (hb : base ≤ w.heap.size) (hn : n ≤ maxLen) :
    Own (w.alloc (.cells (madeCells (e z).toArray (n * s)) E)) base E e s (.slice (some ⟨w.heap.size, 0, none⟩) n n) (List.replicate n z) := by
  refine ⟨hs, ?_⟩
  rw [List.length_replicate]
  refine ⟨by rw [flatMap_len hs, List.length_replicate], .inr ⟨w.heap.size, n, _, rfl, hb, heap_alloc_new w _, Nat.le_refl _, hn, size_madeCells _ _, ?_⟩⟩
  rw [madeCells_flat e z s n (hs z), List.take_of_length_le]
  rw [flatMap_len hs, List.length_replicate]
  exact Nat.le_refl _
/-- The cells of an own row, and one cell stored. -/
theorem Own.len {g n cap : Nat} (h : Own w base E e s (.slice (some ⟨g, 0, none⟩) n cap) xs) : n = xs.length := by
  rcases h.2.2 with ⟨h', _⟩ | ⟨g', cap', cur, h', _⟩
  · simp at h'
  · simp only [Value.slice.injEq] at h'
    exact h'.2.1
theorem Own.cell {g n cap : Nat} (h : Own w base E e s (.slice (some ⟨g, 0, none⟩) n cap) xs) {k j : Nat} {u : Value} (hk : k < xs.length) (hu : (e xs[k])[j]? = some u) : w.cell? ⟨g, k * s + j, none⟩ = some u := by
  obtain rfl := h.len
  have hj : j < s := by rw [← h.1 xs[k]]; exact (List.getElem?_eq_some_iff.1 hu).1
  have hlt : k * s + j < xs.length * s := Nat.lt_of_lt_of_le (Nat.add_lt_add_left hj _) (by rw [← Nat.succ_mul]; exact Nat.mul_le_mul_right _ hk)
  rw [h.2.cellAt _ hlt, flatMap_get h.1 xs k j _ (List.getElem?_eq_getElem hk) hj, hu]
theorem Own.frozen {g n cap : Nat} (h : Own w base E e s (.slice (some ⟨g, 0, none⟩) n cap) xs) (o : Nat) : w.frozen? ⟨g, o, none⟩ = false := by
  obtain rfl := h.len
  exact h.2.frozenAt o
theorem Own.blk {g n cap : Nat} (h : Own w base E e s (.slice (some ⟨g, 0, none⟩) n cap) xs) : base ≤ g ∧ g < w.heap.size := h.2.lt g rfl
/-- One cell stored: element k becomes x'. -/
theorem Own.store {g n cap : Nat} (h : Own w base E e s (.slice (some ⟨g, 0, none⟩) n cap) xs) {k j : Nat} {u : Value} {x' : α} (hk : k < xs.length) (hj : j < s) (he : e x' = (e xs[k]).set j u) :
    Own (w.setCell ⟨g, k * s + j, none⟩ u) base E e s (.slice (some ⟨g, 0, none⟩) n cap) (xs.set k x') := by
  obtain rfl := h.len
  refine ⟨h.1, ?_⟩
  have h2 := (h.2.stored (k * s + j) u).1
  rw [flatMap_set h.1 xs k j _ u x' (List.getElem?_eq_getElem hk) hj he] at h2
  rwa [List.length_set]
/-- A whole element of two, three cells stored. -/
theorem Own.store1 {f : α → Value} {g n cap : Nat} (h : Own w base E (fun x => [f x]) 1 (.slice (some ⟨g, 0, none⟩) n cap) xs) {k : Nat} (hk : k < xs.length) (y : α) :
    Own (w.setCell ⟨g, k, none⟩ (f y)) base E (fun x => [f x]) 1 (.slice (some ⟨g, 0, none⟩) n cap) (xs.set k y) := by
  have := h.store (k := k) (j := 0) (u := f y) (x' := y) hk (by omega) (by simp)
  simpa using this
theorem Own.store2 {f i : α → Value} {g n cap : Nat} (h : Own w base E (fun x => [f x, i x]) 2 (.slice (some ⟨g, 0, none⟩) n cap) xs) {k : Nat} (hk : k < xs.length) (y : α) :
    Own ((w.setCell ⟨g, k * 2, none⟩ (f y)).setCell ⟨g, k * 2 + 1, none⟩ (i y)) base E (fun x => [f x, i x]) 2 (.slice (some ⟨g, 0, none⟩) n cap) (xs.set k y) := by
  obtain rfl := h.len
  refine ⟨h.1, ?_⟩
  have h1 := (h.2.stored (k * 2 + 0) (f y)).1
  have h2 := (h1.stored (k * 2 + 1) (i y)).1
  have e1 : ((xs.flatMap fun x => [f x, i x]).set (k * 2 + 0) (f y)).set (k * 2 + 1) (i y) = (xs.set k y).flatMap fun x => [f x, i x] := by
    clear h h1 h2
    induction xs generalizing k with
    | nil => simp at hk
    | cons z zs ih =>
      rcases k with _ | k
      · simp
      · have := ih (k := k) (by simpa using hk)
        rw [show (k + 1) * 2 + 0 = (k * 2 + 0) + 1 + 1 from by omega, show (k + 1) * 2 + 1 = (k * 2 + 1) + 1 + 1 from by omega]
        simpa using this
  rw [e1] at h2
  rw [List.length_set]
  exact h2
theorem Own.store3 {f i l : α → Value} {g n cap : Nat} (h : Own w base E (fun x => [f x, i x, l x]) 3 (.slice (some ⟨g, 0, none⟩) n cap) xs) {k : Nat} (hk : k < xs.length) (y : α) :
    Own (((w.setCell ⟨g, k * 3, none⟩ (f y)).setCell ⟨g, k * 3 + 1, none⟩ (i y)).setCell ⟨g, k * 3 + 2, none⟩ (l y)) base E (fun x => [f x, i x, l x]) 3 (.slice (some ⟨g, 0, none⟩) n cap) (xs.set k y) := by
  obtain rfl := h.len
  refine ⟨h.1, ?_⟩
  have h1 := (h.2.stored (k * 3 + 0) (f y)).1
  have h2 := (h1.stored (k * 3 + 1) (i y)).1
  have h3 := (h2.stored (k * 3 + 2) (l y)).1
  have e1 : (((xs.flatMap fun x => [f x, i x, l x]).set (k * 3 + 0) (f y)).set (k * 3 + 1) (i y)).set (k * 3 + 2) (l y) = (xs.set k y).flatMap fun x => [f x, i x, l x] := by
    clear h h1 h2 h3
    induction xs generalizing k with
    | nil => simp at hk
    | cons z zs ih =>
      rcases k with _ | k
      · simp
      · have := ih (k := k) (by simpa using hk)
        rw [show (k + 1) * 3 + 0 = (k * 3 + 0) + 1 + 1 + 1 from by omega, show (k + 1) * 3 + 1 = (k * 3 + 1) + 1 + 1 + 1 from by omega, show (k + 1) * 3 + 2 = (k * 3 + 2) + 1 + 1 + 1 from by omega]
        simpa using this
  rw [e1] at h3
  rw [List.length_set]
  exact h3
/-- No element: the nil slice or an empty one. -/
theorem Own.nilv (w : World) (hs : ∀ x, (e x).length = s) (base : Nat) (E : TypeId) : Own w base E e s (.slice none 0 0) ([] : List α) := ⟨hs, World.ownsRow_nil w base E s⟩
end

theorem take_all_succ {α : Type} {P : α → Prop} {xs : List α} {k : Nat} (hk : k < xs.length) (h : ∀ x ∈ xs.take k, P x) (hx : P xs[k]) : ∀ x ∈ xs.take (k + 1), P x := by
  rw [List.take_succ_eq_append_getElem hk]
  intro x hm
  rcases List.mem_append.1 hm with hm | hm
  · exact h x hm
  · simp only [List.mem_singleton] at hm
    subst hm
    exact hx
theorem take_set_succ {α : Type} {xs ys : List α} {k : Nat} (hl : ys.length = xs.length) (h : ys.take k = xs.take k) (hk : k < xs.length) : (ys.set k xs[k]).take (k + 1) = xs.take (k + 1) := by
  rw [List.take_succ_eq_append_getElem (by simpa [hl] using hk), List.take_succ_eq_append_getElem hk, List.take_set_of_le (Nat.le_refl k), h]
  simp

/-! ### How an argument opens -/
section
variable {H : Type} {enc : TypeId × Value → H} {P : Program} {w : World} {base : Nat} {spare : Nat → Bool} {held : Bool}
def Opens {α : Type} {H : Type} (enc : TypeId × Value → H) (P : Program) (w : World) (base : Nat) (spare : Nat → Bool) (held : Bool) (t : TypeId) (e : α → List Value) (ok : α → Prop) : Prop :=
  ∀ (fuel : Nat) (cs : List Value) (x : DataW H × List MemPlace), DataW.trod enc P w base spare held fuel t cs = some x → ∃ a, cs = e a ∧ ok a
def I64 (n : Int) : Prop := -9223372036854775808 ≤ n ∧ n ≤ 9223372036854775807
theorem i64_of_wf {n : Int} (h : (Lit.int .i64 n).wf = true) : I64 n := by
  simp [Lit.wf, IntKind.min, IntKind.max, IntKind.signed, IntKind.bits] at h
  unfold I64
  omega
theorem opens_int {t : TypeId} (ht : P.underlying t = some (.int .i64)) : Opens enc P w base spare held t (fun n : Int => [Value.int .i64 n]) I64 := fun _ _ _ h => by
  obtain ⟨n, rfl, _, hw⟩ := DataW.trod_int ht h
  exact ⟨n, rfl, i64_of_wf hw⟩
theorem opens_bool {t : TypeId} (ht : P.underlying t = some .bool) : Opens enc P w base spare held t (fun b : Bool => [Value.bool b]) (fun _ => True) := fun _ _ _ h => by
  obtain ⟨n, rfl, _⟩ := DataW.trod_bool ht h
  exact ⟨n, rfl, trivial⟩
theorem opens_string {t : TypeId} (ht : P.underlying t = some .string) : Opens enc P w base spare held t (fun b : ByteArray => [Value.string b]) (fun b => b.size ≤ maxLen) := fun _ _ _ h => by
  obtain ⟨n, rfl, _, hl⟩ := DataW.trod_string ht h
  exact ⟨n, rfl, hl⟩

theorem opens_fields {t : TypeId} {fs : Array Field} (ht : P.underlying t = some (.struct fs)) (hone : oneCellFields P fs = true) (hC : P.cellsOf t = fs.size)
    {fuel : Nat} {cs : List Value} {x : DataW H × List MemPlace} (h : DataW.trod enc P w base spare held fuel t cs = some x) :
    cs.length = fs.size ∧ ∀ (j : Nat) (f : Field), fs[j]? = some f → ∃ v n y, cs[j]? = some v ∧ DataW.trod enc P w base spare held n f.type [v] = some y := by
  obtain ⟨ys, n', _, _, hcl, hyl, hf⟩ := DataW.trod_struct ht h
  rw [hC] at hcl
  refine ⟨hcl, fun j f hj => ?_⟩
  obtain ⟨ho, hk⟩ := hone_of hone j f hj
  have hjl : j < fs.size := (Array.getElem?_eq_some_iff.1 hj).1
  have h1 := hf j f hj
  rw [ho, hk] at h1
  have hone' : (cs.drop j).take 1 = [cs[j]'(by omega)] := by
    rw [List.drop_eq_getElem_cons (by omega)]
    rfl
  rw [hone'] at h1
  have hys : ys[j]? = some (ys[j]'(by omega)) := List.getElem?_eq_getElem (by omega)
  exact ⟨cs[j]'(by omega), n', ys[j]'(by omega), List.getElem?_eq_getElem (by omega), h1.trans hys⟩

theorem opens_struct1 {α : Type} {t : TypeId} {f0 : Field} {f : α → Value} {okf : α → Prop} (ht : P.underlying t = some (.struct #[f0])) (hone : oneCellFields P #[f0] = true) (hC : P.cellsOf t = 1)
    (hf : Opens enc P w base spare held f0.type (fun x => [f x]) okf) :
    Opens enc P w base spare held t (fun x : α => [f x]) okf := fun fuel cs x h => by
  obtain ⟨hl, hg'⟩ := opens_fields ht hone hC h
  obtain ⟨v0, n0, y0, e0, t0⟩ := hg' 0 f0 rfl
  obtain ⟨a, ha, oa⟩ := hf _ _ _ t0
  match cs, hl with
  | [c0], _ =>
    simp at e0 ha
    subst e0 ha
    exact ⟨a, rfl, oa⟩
theorem opens_struct2 {α β : Type} {t : TypeId} {f0 f1 : Field} {f : α → Value} {g : β → Value} {okf : α → Prop} {okg : β → Prop} (ht : P.underlying t = some (.struct #[f0, f1])) (hone : oneCellFields P #[f0, f1] = true) (hC : P.cellsOf t = 2)
    (hf : Opens enc P w base spare held f0.type (fun x => [f x]) okf) (hg : Opens enc P w base spare held f1.type (fun x => [g x]) okg) :
    Opens enc P w base spare held t (fun x : α × β => [f x.1, g x.2]) (fun x => okf x.1 ∧ okg x.2) := fun fuel cs x h => by
  obtain ⟨hl, hg'⟩ := opens_fields ht hone hC h
  obtain ⟨v0, n0, y0, e0, t0⟩ := hg' 0 f0 rfl
  obtain ⟨v1, n1, y1, e1, t1⟩ := hg' 1 f1 rfl
  obtain ⟨a, ha, oa⟩ := hf _ _ _ t0
  obtain ⟨b, hb, ob⟩ := hg _ _ _ t1
  match cs, hl with
  | [c0, c1], _ =>
    simp at e0 e1 ha hb
    subst e0 e1 ha hb
    exact ⟨(a, b), rfl, oa, ob⟩
theorem opens_struct3 {α β γ : Type} {t : TypeId} {f0 f1 f2 : Field} {f : α → Value} {g : β → Value} {i : γ → Value} {okf : α → Prop} {okg : β → Prop} {oki : γ → Prop} (ht : P.underlying t = some (.struct #[f0, f1, f2])) (hone : oneCellFields P #[f0, f1, f2] = true) (hC : P.cellsOf t = 3)
    (hf : Opens enc P w base spare held f0.type (fun x => [f x]) okf) (hg : Opens enc P w base spare held f1.type (fun x => [g x]) okg) (hi : Opens enc P w base spare held f2.type (fun x => [i x]) oki) :
    Opens enc P w base spare held t (fun x : α × β × γ => [f x.1, g x.2.1, i x.2.2]) (fun x => okf x.1 ∧ okg x.2.1 ∧ oki x.2.2) := fun fuel cs x h => by
  obtain ⟨hl, hg'⟩ := opens_fields ht hone hC h
  obtain ⟨v0, n0, y0, e0, t0⟩ := hg' 0 f0 rfl
  obtain ⟨v1, n1, y1, e1, t1⟩ := hg' 1 f1 rfl
  obtain ⟨v2, n2, y2, e2, t2⟩ := hg' 2 f2 rfl
  obtain ⟨a, ha, oa⟩ := hf _ _ _ t0
  obtain ⟨b, hb, ob⟩ := hg _ _ _ t1
  obtain ⟨c, hc, oc⟩ := hi _ _ _ t2
  match cs, hl with
  | [c0, c1, c2], _ =>
    simp at e0 e1 e2 ha hb hc
    subst e0 e1 e2 ha hb hc
    exact ⟨(a, b, c), rfl, oa, ob, oc⟩
theorem opens_struct5 {α β γ δ ε : Type} {t : TypeId} {f0 f1 f2 f3 f4 : Field} {f : α → Value} {g : β → Value} {i : γ → Value} {k : δ → Value} {l : ε → Value} {okf : α → Prop} {okg : β → Prop} {oki : γ → Prop} {okk : δ → Prop} {okl : ε → Prop}
    (ht : P.underlying t = some (.struct #[f0, f1, f2, f3, f4])) (hone : oneCellFields P #[f0, f1, f2, f3, f4] = true) (hC : P.cellsOf t = 5)
    (hf : Opens enc P w base spare held f0.type (fun x => [f x]) okf) (hg : Opens enc P w base spare held f1.type (fun x => [g x]) okg) (hi : Opens enc P w base spare held f2.type (fun x => [i x]) oki)
    (hk : Opens enc P w base spare held f3.type (fun x => [k x]) okk) (hl' : Opens enc P w base spare held f4.type (fun x => [l x]) okl) :
    Opens enc P w base spare held t (fun x : α × β × γ × δ × ε => [f x.1, g x.2.1, i x.2.2.1, k x.2.2.2.1, l x.2.2.2.2]) (fun x => okf x.1 ∧ okg x.2.1 ∧ oki x.2.2.1 ∧ okk x.2.2.2.1 ∧ okl x.2.2.2.2) := fun fuel cs x h => by
  obtain ⟨hl, hg'⟩ := opens_fields ht hone hC h
  obtain ⟨v0, n0, y0, e0, t0⟩ := hg' 0 f0 rfl
  obtain ⟨v1, n1, y1, e1, t1⟩ := hg' 1 f1 rfl
  obtain ⟨v2, n2, y2, e2, t2⟩ := hg' 2 f2 rfl
  obtain ⟨v3, n3, y3, e3, t3⟩ := hg' 3 f3 rfl
  obtain ⟨v4, n4, y4, e4, t4⟩ := hg' 4 f4 rfl
  obtain ⟨a, ha, oa⟩ := hf _ _ _ t0
  obtain ⟨b, hb, ob⟩ := hg _ _ _ t1
  obtain ⟨c, hc, oc⟩ := hi _ _ _ t2
  obtain ⟨d, hd, od⟩ := hk _ _ _ t3
  obtain ⟨m, hm, om⟩ := hl' _ _ _ t4
  match cs, hl with
  | [c0, c1, c2, c3, c4], _ =>
    simp at e0 e1 e2 e3 e4 ha hb hc hd hm
    subst e0 e1 e2 e3 e4 ha hb hc hd hm
    exact ⟨(a, b, c, d, m), rfl, oa, ob, oc, od, om⟩

theorem choose_list {α : Type} {p : Nat → α → Prop} : ∀ n : Nat, (∀ i, i < n → ∃ x, p i x) → ∃ xs : List α, xs.length = n ∧ ∀ i x, xs[i]? = some x → p i x
  | 0, _ => ⟨[], rfl, fun i x h => by simp at h⟩
  | n + 1, h => by
    obtain ⟨xs, hl, hx⟩ := choose_list n (fun i hi => h i (by omega))
    obtain ⟨y, hy⟩ := h n (by omega)
    refine ⟨xs ++ [y], by simp [hl], fun i x hi => ?_⟩
    rcases Nat.lt_or_ge i xs.length with hlt | hge
    · rw [List.getElem?_append_left hlt] at hi
      exact hx i x hi
    · rw [List.getElem?_append_right hge] at hi
      have : i - xs.length = 0 := by
        rcases Nat.eq_zero_or_pos (i - xs.length) with h0 | h0
        · exact h0
        · rw [List.getElem?_eq_none (by simp only [List.length_cons, List.length_nil]; omega)] at hi
          cases hi
      rw [this] at hi
      simp at hi
      subst hi
      rw [show i = n from by omega]
      exact hy

theorem addr_add (b o n : Nat) : (⟨b, o, none⟩ : Addr).add n = ⟨b, o + n, none⟩ := by
  unfold Addr.add
  split
  · simp_all
  · rfl
theorem spot_none {w : World} {a : Addr} {u : Value} (h : w.cell? a = some u) : a = ⟨a.block, a.off, none⟩ := by
  obtain ⟨b, o, s⟩ := a
  cases s with
  | none => rfl
  | some x =>
    simp only [World.cell?] at h
    split at h <;> simp at h

/-- What a slice is: where, the capacity, its elements. -/
structure Sl (α : Type) where
  A : Option Addr
  c : Nat
  xs : List α

theorem opens_slice {α : Type} {t el s : TypeId} {e : α → List Value} {ok : α → Prop} (ht : P.underlying t = some (.slice el)) (hC : P.cellsOf el = s) (hs0 : 0 < s) (hs : ∀ x, (e x).length = s)
    (he : Opens enc P w base spare held el e ok) :
    Opens enc P w base spare held t (fun q : Sl α => [Value.slice q.A q.xs.length q.c]) (fun q => Row w q.A e s q.xs ∧ q.xs.length ≤ maxLen ∧ ∀ x ∈ q.xs, ok x) := fun fuel cs x h => by
  rcases open_slice ht h with ⟨rfl, _⟩ | ⟨a, len, cap, m, n, D, Pl, rfl, _, hlc, hcm, hm, _, hi⟩
  · exact ⟨⟨none, 0, []⟩, rfl, Row.nil, by simp, fun x hx => by simp at hx⟩
  · have hlm : len ≤ m := by rw [hm]; split <;> omega
    obtain ⟨xs, hxl, hx⟩ := choose_list (p := fun i (y : α) => ok y ∧ ∀ j u, (e y)[j]? = some u → w.cell? ((a.add (i * s)).add j) = some u) len (fun i hil => by
      obtain ⟨cs', hcs, htr⟩ := hi i (by omega)
      obtain ⟨y, rfl, hok⟩ := he _ _ _ htr
      rw [hC] at hcs
      obtain ⟨_, hcl, hat⟩ := World.cells?_some hcs
      refine ⟨y, hok, fun j u hu => ?_⟩
      have hj : j < s := by rw [← hs y]; exact (List.getElem?_eq_some_iff.1 hu).1
      rw [hat j hj, hu])
    subst hxl
    refine ⟨⟨some a, cap, xs⟩, rfl, fun hne => ?_, Nat.le_trans hlc hcm, fun y hy => ?_⟩
    · have h0 : 0 < xs.length := List.length_pos_iff.2 hne
      have hx0 := (hx 0 xs[0] (List.getElem?_eq_getElem h0)).2 0 ((e xs[0])[0]'(by rw [hs]; exact hs0)) (List.getElem?_eq_getElem _)
      have e0 : (a.add (0 * s)).add 0 = a := by simp [Addr.add]
      rw [e0] at hx0
      have ha := spot_none hx0
      refine ⟨a.block, a.off, by rw [← ha], World.block_lt_of_cell? w a hx0, fun k y hk j u hu => ?_⟩
      have := (hx k y hk).2 j u hu
      rw [ha, addr_add, addr_add, Nat.add_assoc] at this
      exact this
    · obtain ⟨i, hil, rfl⟩ := List.getElem_of_mem hy
      exact (hx i _ (List.getElem?_eq_getElem hil)).1

/-- An argument of slice type. -/
theorem arg_slice {α : Type} {r : Reach} {b0 : Nat} {t el : TypeId} {e : α → List Value} {ok : α → Prop} {s : Nat} {v : Value} {d : DataW H} {p : List MemPlace} (ht : P.underlying t = some (.slice el)) (hC : P.cellsOf el = s) (hs0 : 0 < s) (hs : ∀ x, (e x).length = s)
    (he : Opens enc P w base spare held el e ok) (hv : Value.okWide P w r b0 t v) (h : DataW.Trod enc P w base spare held t v d p) :
    ∃ (A : Option Addr) (c : Nat) (xs : List α), v = .slice A xs.length c ∧ Row w A e s xs ∧ xs.length ≤ maxLen ∧ ∀ x ∈ xs, ok x := by
  obtain ⟨A, n, c, rfl⟩ := okWide_slice ht hv
  obtain ⟨fuel, hf⟩ := h
  obtain ⟨q, hq, hr, hk⟩ := opens_slice ht hC hs0 hs he _ _ _ hf
  simp [Value.cells] at hq
  obtain ⟨rfl, rfl, rfl⟩ := hq
  exact ⟨_, _, _, rfl, hr, hk⟩
/-- An argument of struct type, by value. -/
theorem arg_struct {α : Type} {r : Reach} {b0 : Nat} {t : TypeId} {fs : Array Field} {e : α → List Value} {ok : α → Prop} {v : Value} {d : DataW H} {p : List MemPlace} (ht : P.underlying t = some (.struct fs))
    (he : Opens enc P w base spare held t e ok) (hv : Value.okWide P w r b0 t v) (h : DataW.Trod enc P w base spare held t v d p) :
    ∃ x : α, v = .agg (e x).toArray ∧ ok x := by
  obtain ⟨cs, rfl, _⟩ := okWide_struct ht hv
  obtain ⟨fuel, hf⟩ := h
  obtain ⟨x, hx, hk⟩ := he _ _ _ hf
  refine ⟨x, ?_, hk⟩
  rw [← hx]
  rfl
theorem arg_int {r : Reach} {b0 : Nat} {t : TypeId} {v : Value} {d : DataW H} {p : List MemPlace} (ht : P.underlying t = some (.int .i64)) (hv : Value.okWide P w r b0 t v) (h : DataW.Trod enc P w base spare held t v d p) :
    ∃ n : Int, v = .int .i64 n ∧ I64 n := by
  obtain ⟨n, rfl⟩ := okWide_int ht hv
  obtain ⟨fuel, hf⟩ := h
  obtain ⟨x, hx, hk⟩ := opens_int ht _ _ _ hf
  simp [Value.cells] at hx
  subst hx
  exact ⟨_, rfl, hk⟩
theorem arg_string {r : Reach} {b0 : Nat} {t : TypeId} {v : Value} {d : DataW H} {p : List MemPlace} (ht : P.underlying t = some .string) (hv : Value.okWide P w r b0 t v) (h : DataW.Trod enc P w base spare held t v d p) :
    ∃ s : ByteArray, v = .string s ∧ s.size ≤ maxLen := by
  obtain ⟨n, rfl⟩ := okWide_string ht hv
  obtain ⟨fuel, hf⟩ := h
  obtain ⟨x, hx, hk⟩ := opens_string ht _ _ _ hf
  simp [Value.cells] at hx
  subst hx
  exact ⟨_, rfl, hk⟩
end

/-! ### How a law's row is closed -/
section
variable {H : Type} {enc : TypeId × Value → H} {P : Program}
theorem trodAll_stays (hl : laidOutB P = true) {W W' : World} (hb : Below W.heap.size W W') {sp : Nat → Bool} :
    ∀ (ts : List TypeId) (vs : List Value) (ds : List (DataW H)) (ps : List MemPlace), (ts.all fun t => P.readableRec t && decide (t < P.types.size)) = true →
      (∀ x ∈ ps, x.block < W.heap.size) → (∀ x ∈ ps, sp x.block = true) → DataW.TrodAll enc P W 0 (fun _ => true) true ts vs ds ps → DataW.TrodAll enc P W' 0 sp true ts vs ds ps
  | [], vs, ds, ps, _, _, _, h => by
    cases vs <;> cases ds <;> simp_all [DataW.TrodAll]
  | t :: ts, vs, ds, ps, hr, hlt, hs, h => by
    cases vs with
    | nil => simp [DataW.TrodAll] at h
    | cons v vs =>
      cases ds with
      | nil => simp [DataW.TrodAll] at h
      | cons d ds =>
        simp only [DataW.TrodAll] at h ⊢
        obtain ⟨p, q, h1, h2, rfl⟩ := h
        simp only [List.all_cons, Bool.and_eq_true, decide_eq_true_eq] at hr
        refine ⟨p, q, WideElems.Trod_stays hl hr.1.1 hr.1.2 h1 (fun x hx => hb.same (hlt x (List.mem_append_left _ hx))) (fun x hx => hs x (List.mem_append_left _ hx)), ?_, rfl⟩
        exact trodAll_stays hl hb ts vs ds q hr.2 (fun x hx => hlt x (List.mem_append_right _ hx)) (fun x hx => hs x (List.mem_append_right _ hx)) h2

theorem law_shut {f : Func} {s : ChangeSpec} {tb : TypeId} {W W' : World} {args : Array Value} {ds : List (DataW H)} {before : List MemPlace} (hl : laidOutB P = true)
    (hrd : (f.params.toList.all fun t => P.readableRec t && decide (t < P.types.size)) = true)
    (hW : DataW.Whole enc P f.params.toList s.vars false W args.toList ds [] before) (hsv : s.vars = []) (hrt : f.resultTypes = #[tb]) (htb : P.underlying tb = some .bool)
    (hspec : s.fn H (ds ++ []) = { results := [.lit (.bool true)], args := ds }) (hb : Below W.heap.size W W') :
    s.post enc P f false true false false W args (.bool true) W' := by
  have hlt : ∀ x ∈ before, x.block < W.heap.size := fun x hx => hW.lt x hx
  have hold : ∀ x ∈ before, (fun b => decide (b < W.heap.size)) x.block = true := fun x hx => by simpa using hlt x hx
  have hW2 := hW
  obtain ⟨p, q, hA, hV, rfl, hz, hn⟩ := hW2
  have hq : q = [] := by rw [hsv] at hV; simpa [DataW.TrodVars] using hV
  subst hq
  have hlt' : ∀ x ∈ p, x.block < W.heap.size := fun x hx => hlt x (List.mem_append_left _ hx)
  have hres : ∀ (b : Nat) (sp : Nat → Bool) (hd : Bool), DataW.TrodAll enc P W' b sp hd f.resultTypes.toList ((Value.bool true).resultList f.resultTypes.size) (s.fn H (ds ++ [])).results [] := fun b sp hd => by
    rw [hspec, hrt]
    exact trodAll_cons_mk (shut_bool htb _) trodAll_mk0
  have hargs : ∀ sp : Nat → Bool, (∀ x ∈ p, sp x.block = true) → DataW.TrodAll enc P W' 0 sp true f.params.toList args.toList (s.fn H (ds ++ [])).args p := fun sp hsp => by
    rw [hspec]
    exact trodAll_stays hl hb _ _ _ _ hrd hlt' hsp hA
  have hvars : ∀ sp : Nat → Bool, DataW.TrodVars enc P W' sp s.vars (s.fn H (ds ++ [])).vars [] := fun sp => by
    rw [hspec, hsv]
    rfl
  refine ⟨ds, [], p ++ [], [], p, [], hW, hres _ _ _, hargs _ (fun x hx => by simpa using hlt' x hx), hvars _, World.keptBut_mono (fun x hx => ⟨hx, ?_⟩) (hb.frame (· ∈ p ++ [])), fun h => by cases h⟩
  simpa using hx
end
end Go.Proofs.Ytampmnicnomknaa
