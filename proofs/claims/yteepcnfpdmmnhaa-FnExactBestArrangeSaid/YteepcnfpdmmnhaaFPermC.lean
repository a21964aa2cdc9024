/-
  FPermC: the cost of the first letters' places, and how it grows. No code of the program in sight.
-/
import Derived.Test.YteepcnfpdmmnhaaPermK
import Derived.Test.YteepcnfpdmmnhaaFArrCost
import Derived.Test.YteepcnfpdmmnhaaFSwap
namespace Go.Proofs.Yteepcnfpdmmnhaa
open Go.RowKit
def toI (q : List Nat) : List Int := q.map fun n : Nat => (n : Int)
theorem toI_len (q : List Nat) : (toI q).length = q.length := by simp [toI]
theorem toI_getD (q : List Nat) (i : Nat) : (toI q).getD i 0 = ((q.getD i 0 : Nat) : Int) := by
  unfold toI
  rw [List.getD_eq_getElem?_getD, List.getD_eq_getElem?_getD, List.getElem?_map]
  cases q[i]? <;> rfl
theorem toI_app (q : List Nat) (p : Nat) : toI (q ++ [p]) = toI q ++ [(p : Int)] := by simp [toI]
theorem toI_set (q : List Nat) (i p : Nat) : toI (q.set i p) = (toI q).set i (p : Int) := by simp [toI, List.map_set]
theorem toI_swap (q : List Nat) (i k : Nat) : toI (swapN q i k) = swapL (toI q) i k := by
  unfold swapN swapL
  rw [toI_set, toI_set, toI_getD, toI_getD]
def tabE (xs : List (List Int)) (i k : Nat) : Int := (xs.getD i []).getD k 0
theorem tabE_bd {xs : List (List Int)} (h : PairsOk xs) (i k : Nat) : 0 ≤ tabE xs i k ∧ tabE xs i k ≤ 1000 := by
  unfold tabE
  rw [List.getD_eq_getElem?_getD, List.getD_eq_getElem?_getD]
  by_cases hi : i < xs.length
  · rw [List.getElem?_eq_getElem hi, Option.getD_some]
    by_cases hk : k < xs[i].length
    · rw [List.getElem?_eq_getElem hk, Option.getD_some]
      exact (pairs_row h i hi).2 _ (List.getElem_mem hk)
    · rw [List.getElem?_eq_none (l := xs[i]) (i := k) (by omega)]; simp
  · rw [List.getElem?_eq_none (l := xs) (i := i) (by omega)]; simp
theorem tabE_eq {xs : List (List Int)} (i k : Nat) (hi : i < xs.length) (hk : k < xs[i].length) : tabE xs i k = xs[i][k] := by
  unfold tabE
  rw [List.getD_eq_getElem?_getD, List.getD_eq_getElem?_getD, List.getElem?_eq_getElem hi, Option.getD_some, List.getElem?_eq_getElem hk, Option.getD_some]
theorem rowS_sum (f : Nat → Int) (r : List Int) (s : Int) : ∀ k, k ≤ r.length → rowS f r 0 s = rowS f (r.drop k) k (s + sumN k fun j => r.getD j 0 * f j)
  | 0, _ => by simp [sumN]
  | k + 1, h => by
    have hk : k < r.length := by omega
    rw [rowS_sum f r s k (by omega), rowS_step f r k hk, sumN_succ]
    show _ = rowS f (r.drop (k + 1)) (k + 1) (s + (sumN k (fun j => r.getD j 0 * f j) + r.getD k 0 * f k))
    rw [getD_eq r k hk, Int.add_assoc]
theorem rowS_all (f : Nat → Int) (r : List Int) (s : Int) : rowS f r 0 s = s + sumN r.length fun j => r.getD j 0 * f j := by
  rw [rowS_sum f r s r.length (Nat.le_refl _), List.drop_of_length_le (Nat.le_refl _)]; rfl
theorem allS_sum (f : Nat → Nat → Int) (xs : List (List Int)) (n : Nat) (hn : ∀ r ∈ xs, r.length = n) (s : Int) : ∀ i, i ≤ xs.length → allS f xs 0 s = allS f (xs.drop i) i (s + sumN i fun j => sumN n fun k => tabE xs j k * f j k)
  | 0, _ => by simp [sumN]
  | i + 1, h => by
    have hi : i < xs.length := by omega
    rw [allS_sum f xs n hn s i (by omega), allS_step f xs i hi, rowS_all, hn _ (List.getElem_mem hi)]
    congr 1
    show _ = s + (sumN i _ + _)
    rw [Int.add_assoc]
    congr 2
    exact sumN_congr n fun k _ => by unfold tabE; rw [List.getD_eq_getElem?_getD (l := xs), List.getElem?_eq_getElem hi]; rfl
theorem allS_all (f : Nat → Nat → Int) (xs : List (List Int)) (h : PairsOk xs) : allS f xs 0 0 = dblN xs.length fun i k => tabE xs i k * f i k := by
  rw [allS_sum f xs xs.length (fun r hr => (h.2 r hr).1) 0 xs.length (Nat.le_refl _), List.drop_of_length_le (Nat.le_refl _)]
  show 0 + _ = _
  rw [Int.zero_add]; rfl
def costD (x : TBasket) (xs : List (List Int)) (q : List Nat) : Int := dblN q.length fun i k => tabE xs i k * waitV x ((q.getD i 0 : Nat) : Int) ((q.getD k 0 : Nat) : Int)
def incD (x : TBasket) (xs : List (List Int)) (now : List Nat) (p m : Nat) : Int := sumN m fun i => (tabE xs i now.length + tabE xs now.length i) * waitV x ((now.getD i 0 : Nat) : Int) (p : Int)
theorem getD_app_lt (now : List Nat) (p i : Nat) (h : i < now.length) : (now ++ [p]).getD i 0 = now.getD i 0 := by
  rw [List.getD_eq_getElem?_getD, List.getD_eq_getElem?_getD, List.getElem?_append_left h]
theorem getD_app_eq (now : List Nat) (p : Nat) : (now ++ [p]).getD now.length 0 = p := by
  rw [List.getD_eq_getElem?_getD, List.getElem?_append_right (Nat.le_refl _)]; simp
theorem costD_app (x : TBasket) (xs : List (List Int)) (now : List Nat) (p : Nat) : costD x xs (now ++ [p]) = costD x xs now + tabE xs now.length now.length * waitV x (p : Int) (p : Int) + incD x xs now p now.length := by
  unfold costD incD
  rw [show (now ++ [p]).length = now.length + 1 by simp, dblN_succ, getD_app_eq]
  congr 1
  · congr 1
    exact dblN_congr _ fun i k hi hk => by rw [getD_app_lt _ _ _ hi, getD_app_lt _ _ _ hk]
  · exact sumN_congr _ fun i hi => by
      show tabE xs i now.length * waitV x _ _ + tabE xs now.length i * waitV x _ _ = _
      rw [getD_app_lt _ _ _ hi, Int.add_mul, waitV_comm x (p : Int)]
theorem costD_full (x : TBasket) (xs : List (List Int)) (h : PairsOk xs) (q : List Nat) (hq : q.length = xs.length) : costD x xs q = costA x xs (toI q) := by
  unfold costD costA
  rw [allS_all _ xs h, hq]
  exact dblN_congr _ fun i k _ _ => by unfold wF; rw [toI_getD, toI_getD]
theorem wait0 (x : TBasket) (hb : BasketOk x) (a c : Int) : 0 ≤ waitV x a c ∧ waitV x a c ≤ 200 := by
  have := waitV_bd x hb a c; omega
theorem incD_bd (x : TBasket) (hb : BasketOk x) (xs : List (List Int)) (h : PairsOk xs) (now : List Nat) (p m : Nat) : 0 ≤ incD x xs now p m ∧ incD x xs now p m ≤ 400000 * m := by
  have hb1 : ∀ i, 0 ≤ (tabE xs i now.length + tabE xs now.length i) * waitV x ((now.getD i 0 : Nat) : Int) (p : Int) ∧ (tabE xs i now.length + tabE xs now.length i) * waitV x ((now.getD i 0 : Nat) : Int) (p : Int) ≤ 400000 := fun i => by
    have h1 := mul_bd (tabE_bd h i now.length) (wait0 x hb ((now.getD i 0 : Nat) : Int) (p : Int))
    have h2 := mul_bd (tabE_bd h now.length i) (wait0 x hb ((now.getD i 0 : Nat) : Int) (p : Int))
    rw [Int.add_mul]
    omega
  exact ⟨sumN_nonneg m fun i => (hb1 i).1, sumN_le m fun i => (hb1 i).2⟩
theorem costD_mono (x : TBasket) (hb : BasketOk x) (xs : List (List Int)) (h : PairsOk xs) (now : List Nat) (p : Nat) : costD x xs now ≤ costD x xs (now ++ [p]) := by
  rw [costD_app]
  have h1 := mul_bd (tabE_bd h now.length now.length) (wait0 x hb (p : Int) (p : Int))
  have h2 := (incD_bd x hb xs h now p now.length).1
  omega
theorem costD_bd (x : TBasket) (hb : BasketOk x) (xs : List (List Int)) (h : PairsOk xs) (q : List Nat) (hq : q.length ≤ 7) : 0 ≤ costD x xs q ∧ costD x xs q ≤ 9800000 := by
  have hb1 : ∀ i k, 0 ≤ tabE xs i k * waitV x ((q.getD i 0 : Nat) : Int) ((q.getD k 0 : Nat) : Int) ∧ tabE xs i k * waitV x ((q.getD i 0 : Nat) : Int) ((q.getD k 0 : Nat) : Int) ≤ 200000 := fun i k => mul_bd (tabE_bd h i k) (wait0 x hb _ _)
  unfold costD dblN
  refine ⟨sumN_nonneg _ fun i => sumN_nonneg _ fun k => (hb1 i k).1, ?_⟩
  have h1 : ∀ i, sumN q.length (fun k => tabE xs i k * waitV x ((q.getD i 0 : Nat) : Int) ((q.getD k 0 : Nat) : Int)) ≤ 1400000 := fun i => by
    have := sumN_le (B := 200000) q.length (fun k => (hb1 i k).2)
    omega
  have h2 := sumN_le (B := 1400000) q.length h1
  show sumN q.length (fun i => sumN q.length (fun k => tabE xs i k * waitV x ((q.getD i 0 : Nat) : Int) ((q.getD k 0 : Nat) : Int))) ≤ 9800000
  omega
/-- What BestArrange returns: the least in the order of the chain. -/
noncomputable def bestR (x : TBasket) (xs : List (List Int)) : List Nat × Int := walkG (costD x xs) xs.length xs.length [] ([], -1)
open Classical in
noncomputable def M_BestArrange (x : TBasket) (xs : List (List Int)) : List Int × Int × Int :=
  if BasketOk x then (if PairsOk xs then (if x.1 < (xs.length : Int) then ([], 0, 5) else (toI (bestR x xs).1, (bestR x xs).2, 0)) else ([], 0, 1)) else ([], 0, 1)
end Go.Proofs.Yteepcnfpdmmnhaa
