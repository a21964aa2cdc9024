/-
  PermK: the orders of the numbers below n, each from the one before, and the fold that keeps the cheapest. No program in sight.
-/
import Derived.Test.YteepcnfpdmmnhaaMore
namespace Go.Proofs.Yteepcnfpdmmnhaa
def pivG (l : List Nat) : Nat → Nat
  | 0 => 0
  | j + 1 => if l.getD (j + 1) 0 ≤ l.getD j 0 then pivG l j else j + 1
def sucG (l : List Nat) (x : Nat) : Nat → Nat
  | 0 => 0
  | k + 1 => if l.getD (k + 1) 0 ≤ x then sucG l x k else k + 1
def swapN (l : List Nat) (i k : Nat) : List Nat := (l.set i (l.getD k 0)).set k (l.getD i 0)
def revG : Nat → List Nat → Nat → Nat → List Nat
  | 0, l, _, _ => l
  | g + 1, l, a, b => if a < b then revG g (swapN l a b) (a + 1) (b - 1) else l
def nextP (l : List Nat) : Option (List Nat) :=
  match pivG l (l.length - 1) with
  | 0 => none
  | i + 1 => some (revG l.length (swapN l i (sucG l (l.getD i 0) (l.length - 1))) (i + 1) (l.length - 1))
def permsG (n : Nat) : Nat → List Nat → List (List Nat)
  | 0, now => [now]
  | g + 1, now => (List.range n).flatMap fun p => if now.contains p then [] else permsG n g (now ++ [p])
def eqNL : List Nat → List Nat → Bool
  | [], [] => true
  | a :: x, b :: y => Nat.beq a b && eqNL x y
  | _, _ => false
theorem eqNL_eq : ∀ (x y : List Nat), eqNL x y = true → x = y
  | [], [], _ => rfl
  | a :: x, b :: y, h => by
    simp only [eqNL, Bool.and_eq_true] at h
    rw [Nat.eq_of_beq_eq_true h.1, eqNL_eq x y h.2]
  | [], b :: y, h => by simp [eqNL] at h
  | a :: x, [], h => by simp [eqNL] at h
def eqON : Option (List Nat) → List Nat → Bool
  | some a, b => eqNL a b
  | none, _ => false
theorem eqON_eq {o : Option (List Nat)} {b : List Nat} (h : eqON o b = true) : o = some b := by
  cases o with
  | none => simp [eqON] at h
  | some a => rw [eqNL_eq a b h]
def chainG : List Nat → List (List Nat) → Bool
  | q, [] => (nextP q).isNone
  | q, r :: t => eqON (nextP q) r && chainG r t
def chainH (n : Nat) : List (List Nat) → Bool
  | [] => false
  | q :: t => eqNL q (List.range n) && chainG q t
set_option maxHeartbeats 0 in
set_option maxRecDepth 100000 in
theorem chain7 : chainH 7 (permsG 7 7 []) = true := by decide +kernel
theorem chain_all : ∀ n, 2 ≤ n → n ≤ 7 → chainH n (permsG n n []) = true
  | 2, _, _ => by decide +kernel
  | 3, _, _ => by decide +kernel
  | 4, _, _ => by decide +kernel
  | 5, _, _ => by decide +kernel
  | 6, _, _ => by decide +kernel
  | 7, _, _ => chain7
  | 0, h, _ => by omega
  | 1, h, _ => by omega
  | n + 8, _, h => by omega
theorem chain_start (n : Nat) (h2 : 2 ≤ n) (h7 : n ≤ 7) : ∃ t, permsG n n [] = List.range n :: t ∧ chainG (List.range n) t = true := by
  have h := chain_all n h2 h7
  cases hp : permsG n n [] with
  | nil => rw [hp] at h; simp [chainH] at h
  | cons q t =>
    rw [hp] at h
    simp only [chainH, Bool.and_eq_true] at h
    have := eqNL_eq _ _ h.1
    subst this
    exact ⟨t, rfl, h.2⟩
theorem permsG_all (n : Nat) : ∀ (g : Nat) (now q : List Nat), q ∈ permsG n g now → (∀ p ∈ now, p < n) → q.length = now.length + g ∧ ∀ p ∈ q, p < n
  | 0, now, q, h, hn => by
    simp only [permsG, List.mem_singleton] at h
    subst h
    exact ⟨rfl, hn⟩
  | g + 1, now, q, h, hn => by
    simp only [permsG, List.mem_flatMap, List.mem_range] at h
    obtain ⟨p, hp, hq⟩ := h
    split at hq
    · cases hq
    · have := permsG_all n g (now ++ [p]) q hq (fun r hr => by
        rcases List.mem_append.1 hr with h1 | h1
        · exact hn r h1
        · simp only [List.mem_singleton] at h1; omega)
      refine ⟨?_, this.2⟩
      rw [this.1, List.length_append]
      simp only [List.length_cons, List.length_nil]
      omega
/-! ### The cheapest -/
section
variable (C : List Nat → Int)
def updP (st : List Nat × Int) (q : List Nat) : List Nat × Int := if st.2 < 0 ∨ C q < st.2 then (q, C q) else st
def walkG (n : Nat) : Nat → List Nat → List Nat × Int → List Nat × Int
  | 0, now, st => if 0 ≤ st.2 ∧ st.2 ≤ C now then st else (now, C now)
  | g + 1, now, st => if 0 ≤ st.2 ∧ st.2 ≤ C now then st else (List.range n).foldl (fun st p => if now.contains p then st else walkG n g (now ++ [p]) st) st
variable {C}
theorem permsG_cost (hm : ∀ now p, C now ≤ C (now ++ [p])) (n : Nat) : ∀ (g : Nat) (now q : List Nat), q ∈ permsG n g now → C now ≤ C q
  | 0, now, q, h => by
    simp only [permsG, List.mem_singleton] at h
    subst h
    exact Int.le_refl _
  | g + 1, now, q, h => by
    simp only [permsG, List.mem_flatMap, List.mem_range] at h
    obtain ⟨p, hp, hq⟩ := h
    split at hq
    · cases hq
    · have := permsG_cost hm n g (now ++ [p]) q hq
      have := hm now p
      omega
theorem fold_same (st : List Nat × Int) (h0 : 0 ≤ st.2) : ∀ (L : List (List Nat)), (∀ q ∈ L, st.2 ≤ C q) → L.foldl (updP C) st = st
  | [], _ => rfl
  | q :: L, h => by
    rw [List.foldl_cons, show updP C st q = st from by unfold updP; rw [if_neg (by have := h q (List.mem_cons_self ..); omega)]]
    exact fold_same st h0 L (fun r hr => h r (List.mem_cons_of_mem _ hr))
theorem fold_flat {α β : Type} (f : β → α → β) (F : β → Nat → β) (G : Nat → List α) : ∀ (L : List Nat) (st : β), (∀ p ∈ L, ∀ s, F s p = (G p).foldl f s) → L.foldl F st = (L.flatMap G).foldl f st
  | [], st, _ => rfl
  | p :: L, st, h => by
    rw [List.foldl_cons, List.flatMap_cons, List.foldl_append, h p (List.mem_cons_self ..), fold_flat f F G L _ (fun q hq s => h q (List.mem_cons_of_mem _ hq) s)]
theorem walkG_eq (hm : ∀ now p, C now ≤ C (now ++ [p])) (n : Nat) : ∀ (g : Nat) (now : List Nat) (st : List Nat × Int), walkG C n g now st = (permsG n g now).foldl (updP C) st
  | 0, now, st => by
    simp only [walkG, permsG, List.foldl_cons, List.foldl_nil, updP]
    by_cases h : 0 ≤ st.2 ∧ st.2 ≤ C now
    · rw [if_pos h, if_neg (by omega)]
    · rw [if_neg h, if_pos (by omega)]
  | g + 1, now, st => by
    unfold walkG
    by_cases h : 0 ≤ st.2 ∧ st.2 ≤ C now
    · rw [if_pos h, fold_same st h.1 _ (fun q hq => by have := permsG_cost hm n (g + 1) now q hq; omega)]
    · rw [if_neg h]
      unfold permsG
      refine fold_flat _ _ _ _ _ (fun p _ s => ?_)
      split
      · rfl
      · exact walkG_eq hm n g (now ++ [p]) s
theorem upd_neg (q : List Nat) (b : List Nat) : updP C (b, -1) q = (q, C q) := by unfold updP; rw [if_pos (by simp)]
/-- The walk from nothing is the fold over the chain. -/
theorem walk_chain (hm : ∀ now p, C now ≤ C (now ++ [p])) (n : Nat) (b t : List Nat) (L : List (List Nat)) (h : permsG n n [] = t :: L) : walkG C n n [] (b, -1) = L.foldl (updP C) (t, C t) := by
  rw [walkG_eq hm, h, List.foldl_cons, upd_neg]
end
/-! ### Sums -/
def sumN : Nat → (Nat → Int) → Int
  | 0, _ => 0
  | m + 1, g => sumN m g + g m
theorem sumN_succ (m : Nat) (g : Nat → Int) : sumN (m + 1) g = sumN m g + g m := rfl
theorem sumN_congr {f g : Nat → Int} : ∀ (m : Nat), (∀ i, i < m → f i = g i) → sumN m f = sumN m g
  | 0, _ => rfl
  | m + 1, h => by
    unfold sumN
    rw [sumN_congr m (fun i hi => h i (by omega)), h m (by omega)]
theorem sumN_add (f g : Nat → Int) : ∀ (m : Nat), sumN m (fun i => f i + g i) = sumN m f + sumN m g
  | 0 => rfl
  | m + 1 => by
    show sumN m (fun i => f i + g i) + (f m + g m) = (sumN m f + f m) + (sumN m g + g m)
    rw [sumN_add f g m]; omega
theorem sumN_nonneg {f : Nat → Int} : ∀ (m : Nat), (∀ i, 0 ≤ f i) → 0 ≤ sumN m f
  | 0, _ => Int.le_refl _
  | m + 1, h => by
    have h1 := sumN_nonneg m h
    have h2 := h m
    unfold sumN
    omega
theorem sumN_le {f : Nat → Int} {B : Int} : ∀ (m : Nat), (∀ i, f i ≤ B) → sumN m f ≤ B * m
  | 0, _ => by simp [sumN]
  | m + 1, h => by
    have h1 := sumN_le m h
    have h2 := h m
    unfold sumN
    rw [Int.natCast_add, Int.mul_add]
    omega
def dblN (m : Nat) (f : Nat → Nat → Int) : Int := sumN m fun i => sumN m fun k => f i k
theorem dblN_congr {f g : Nat → Nat → Int} (m : Nat) (h : ∀ i k, i < m → k < m → f i k = g i k) : dblN m f = dblN m g :=
  sumN_congr m fun i hi => sumN_congr m fun k hk => h i k hi hk
theorem dblN_succ (m : Nat) (f : Nat → Nat → Int) : dblN (m + 1) f = dblN m f + f m m + sumN m (fun i => f i m + f m i) := by
  unfold dblN
  show sumN m (fun i => sumN m (f i) + f i m) + (sumN m (f m) + f m m) = sumN m (fun i => sumN m (f i)) + f m m + sumN m (fun i => f i m + f m i)
  rw [sumN_add, sumN_add]
  show _ = sumN m (fun i => sumN m (f i)) + f m m + (sumN m (fun i => f i m) + sumN m (f m))
  omega
end Go.Proofs.Yteepcnfpdmmnhaa
