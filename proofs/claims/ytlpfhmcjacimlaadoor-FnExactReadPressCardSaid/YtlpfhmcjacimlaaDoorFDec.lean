/-
  FDec: the decimal form of a number: spec.l01Dec. Printed by wip/gen_dec.py.
-/
import Derived.Test.YtlpfhmcjacimlaaDoorAppAt
import Derived.Test.YtlpfhmcjacimlaaDoorFSwap
import Derived.Laws.BytesArg
import Derived.Lib.ItoaNum
namespace Go.Proofs.YtlpfhmcjacimlaaDoor
open Go.RowKit
set_option linter.unusedVariables false
attribute [local go_sem ↓] Go.wp_at_zero Go.wp_at_succ
set_option linter.unusedSimpArgs false
abbrev encU : Int → List Value := fun x => [.int .u8 x]
def decI (u : Nat) : List Int := if h : u = 0 then [] else decI (u / 10) ++ [48 + ((u % 10 : Nat) : Int)]
termination_by u
decreasing_by omega
theorem decI_zero : decI 0 = [] := by rw [decI, dif_pos rfl]
theorem decI_succ {u : Nat} (h : u ≠ 0) : decI u = decI (u / 10) ++ [48 + ((u % 10 : Nat) : Int)] := by rw [decI, dif_neg h]
theorem nDigits_le : ∀ (k u : Nat), u < 10 ^ (k + 1) → Lib.nDigits u ≤ k + 1
  | 0, u, h => by rw [Lib.nDigits_small (by simpa using h)]; omega
  | k + 1, u, h => by
    by_cases hs : u < 10
    · rw [Lib.nDigits_small hs]; omega
    · rw [Lib.nDigits_big hs]
      rw [Nat.pow_succ] at h
      have := nDigits_le k (u / 10) (by omega)
      omega
theorem decI_dig (u : Nat) (h : u ≠ 0) : (decI u).map (fun n => UInt8.ofNat n.toNat) = Lib.decDigits u := by
  induction u using Nat.strongRecOn with
  | _ u ih =>
    have e1 : UInt8.ofNat ((48 + ((u % 10 : Nat) : Int)).toNat) = UInt8.ofNat (48 + u % 10) := by congr 1
    rw [decI_succ h, List.map_append]
    by_cases hs : u < 10
    · have h0 : u / 10 = 0 := by omega
      rw [h0, decI_zero, Lib.decDigits_one hs]
      simp only [List.map_nil, List.nil_append, List.map_cons, List.cons.injEq, and_true]
      rw [e1, Nat.mod_eq_of_lt hs]
    · rw [ih (u / 10) (by omega) (by omega)]
      conv => rhs; rw [Lib.decDigits, dif_neg hs]
      simp only [List.map_cons, List.map_nil, e1]
def dstr (n : Int) : ByteArray := ⟨(Lib.itoa n).toArray⟩
theorem dstr_zero : dstr 0 = ⟨#[48]⟩ := by unfold dstr Lib.itoa; rw [if_neg (by decide), show (0 : Int).toNat = 0 from rfl, Lib.decDigits_one (by decide)]; rfl
theorem dstr_pos {n : Int} (h : 0 < n) : strOfNums (decI n.natAbs) = dstr n := by
  unfold dstr Lib.itoa strOfNums
  rw [if_neg (by omega), decI_dig _ (by omega), show n.natAbs = n.toNat by omega]
theorem dstr_neg {n : Int} (h : n < 0) : (⟨#[45]⟩ : ByteArray) ++ strOfNums (decI n.natAbs) = dstr n := by
  unfold dstr Lib.itoa strOfNums
  rw [if_pos h, decI_dig _ (by omega)]
  apply ByteArray.ext
  simp
theorem decI_len (u : Nat) (h : u ≤ 9223372036854775808) : (decI u).length ≤ 20 := by
  by_cases h0 : u = 0
  · subst h0; rw [decI_zero]; simp
  · have h1 := congrArg List.length (decI_dig u h0)
    rw [List.length_map, Lib.decDigits_length] at h1
    have := nDigits_le 19 u (by omega)
    omega
section
variable {P : Program} {w : World}
theorem Own.lit1 (w : World) (base : Nat) (E : TypeId) (x : Int) (hb : base ≤ w.heap.size) : Own (w.alloc (.cells #[.int .u8 x] E)) base E encU 1 (.slice (some ⟨w.heap.size, 0, none⟩) 1 1) [x] :=
  ⟨fun _ => rfl, by have := World.ownsRow_lit (base := base) (e := E) (size := 1) w #[.int .u8 x] 1 hb (by unfold maxLen; omega) rfl; exact this⟩
theorem own_some2 {α : Type} {base : Nat} {E : TypeId} {e : α → List Value} {s : Nat} {v : Value} {xs : List α} (h : Own w base E e s v xs) (hne : v ≠ .slice none 0 0) : ∃ g c, v = .slice (some ⟨g, 0, none⟩) xs.length c := by
  rcases h.2.2 with ⟨hv, _⟩ | ⟨g, cap, cs, hv, _⟩
  · exact absurd hv hne
  · exact ⟨g, cap, hv⟩
theorem app_front {ops : Array Oper} {rest : List Oper} {o : Oper} {a : Act} {Q : Exit → Act → World → Prop} (hgd : o.guard = none) (sO xO : Operand) (t : TypeId)
    (ho : o.op = .call { callee := .builtin .append, args := #[sO, xO], argTypes := #[t, t] })
    (base : Nat) (E : TypeId) (i : TypeInfo) (z : Value) (ht : P.underlying t = some (.slice E)) (hi : P.info? E = some i) (hz : i.zero = some z)
    (hsize : i.size = 1) (hby : i.bytes = 1) (hzs : z.cells.size = 1)
    (v : Value) (ys : List Int) (hs : a.eval sO = v) (hown : Own w base E encU 1 v ys)
    (g c : Nat) (news : List Int) (hx : a.eval xO = .slice (some ⟨g, 0, none⟩) news.length c) (hnw : Own w base E encU 1 (.slice (some ⟨g, 0, none⟩) news.length c) news)
    (h63 : ys.length + news.length ≤ 1000) (hbase : base ≤ w.heap.size)
    (h : ∀ v' w', Own w' base E encU 1 v' (ys ++ news) → w.grownBy w' v.ownBlock → (v' = .slice none 0 0 → v = .slice none 0 0) → wpList P ops Q rest (a.put o.dst v') w') :
    wpList P ops Q (o :: rest) a w := by
  refine wpList_append_own_at _ hgd sO xO t ho base E i z 1 1 ht hi hz hsize hby hzs (by decide) v ys.length (ys.flatMap encU) hs hown.2 ⟨g, 0, none⟩ news.length c (news.flatMap encU) hx hnw.2.1 (hnw.2.cells rfl) (fun u hu => ?_) (by unfold maxLen; omega) (by omega) hbase ?_
  · obtain ⟨x, _, hx2⟩ := List.mem_flatMap.1 hu
    simp only [encU, List.mem_cons, List.not_mem_nil, or_false] at hx2
    subst hx2; rfl
  · intro v' w' ho' hg hnil _
    refine h v' w' ⟨hown.1, ?_⟩ hg (fun hh => (hnil.1 hh).1)
    rw [List.flatMap_append, List.length_append]
    exact ho'
end
theorem conv_own2 {P : Program} {w : World} {base : Nat} {E : TypeId} {v : Value} {l : List Int} (h : Own w base E encU 1 v l) (src e : TypeId) (hs : P.underlying src = some (.slice e)) (he : P.underlying e = some (.int .u8)) (dst : TypeId) (hd : P.underlying dst = some .string) :
    (convert src dst v).run P w = .ok (.string (strOfNums l)) w := by
  rcases Nat.eq_zero_or_pos l.length with h0 | h0
  · have : l = [] := List.eq_nil_of_length_eq_zero h0
    subst this
    rcases h.2.2 with ⟨rfl, _⟩ | ⟨g, cap, cs, rfl, _⟩
    · exact run_convert_bytes_nil w src e hs he _ _ dst hd
    · exact run_convert_bytes_arg w src e hs he g 0 _ cap [] rfl (fun i hi => absurd hi (by simp)) dst hd
  · obtain ⟨g, cap, rfl⟩ := own_some h h0
    refine run_convert_bytes_arg w src e hs he g 0 _ cap l rfl (fun i hi => ?_) dst hd
    have := h.cell (k := i) (j := 0) hi rfl
    rw [List.getD_eq_getElem?_getD, List.getElem?_eq_getElem hi]
    simpa using this
theorem info_u8d : (Tryd.prog.info? 5).map (fun i => (i.zero, i.size, i.bytes)) = some (some (.int .u8 0), 1, 1) := by kernel_rfl
set_option maxHeartbeats 3200000 in
set_option maxRecDepth 10000 in
theorem l01Dec_any (n : Int) (hn : I64 n) (w : World) :
    Calls Tryd.prog 17 #[.int .i64 n] w fun e w' => e = .returned (.string (dstr n)) ∧ Below w.heap.size w w' := by
  obtain ⟨i0, hi0, hz, hsz, hby⟩ := info_parts info_u8d
  have hn2 : -9223372036854775808 ≤ n ∧ n ≤ 9223372036854775807 := hn
  obtain ⟨R, hR⟩ : ∃ R, decI n.natAbs = R := ⟨_, rfl⟩
  have hRl : R.length ≤ 20 := by rw [← hR]; exact decI_len _ (by omega)
  have HR := Lib.hid hR
  have o1 := Own.lit0 (e := encU) (s := 1) w (fun _ => rfl) w.heap.size 5 (Nat.le_refl _)
  have hBl : Below w.heap.size w (w.alloc (.cells #[] 5)) := bal (Below.refl _ _) _
  go_enter Tryd.func17, Tryd.ntmps17
  go_wp2_with fail
  go_loopg [3, 4] n.natAbs (fun g vs ks wr => ∃ (k : Int) (l : List Int) (b c : Nat), g = k.natAbs ∧ (-9223372036854775808 ≤ k ∧ k ≤ 9223372036854775807) ∧ decI k.natAbs ++ l = R ∧ Own wr w.heap.size 5 encU 1 (.slice (some ⟨b, 0, none⟩) l.length c) l ∧ Below w.heap.size w wr ∧ vs = .slice (some ⟨b, 0, none⟩) l.length c ∧ ks = .int .i64 k)
  case atStart => exact ⟨n, [], w.heap.size, 0, rfl, by omega, by rw [List.append_nil]; exact hR, o1, hBl, rfl, rfl⟩
  case round =>
    obtain ⟨k, l, b, c, hg, hk, hgo, hown, hbw, rfl, rfl⟩ := hrel
    have HG := Lib.hid hg
    clear hg o1 hBl hR
    by_cases hk0 : k = 0
    · subst hk0
      rw [show (0 : Int).natAbs = 0 from rfl, decI_zero, List.nil_append] at hgo
      subst hgo
      have hcv := fun dst hd => conv_own2 hown 39 5 Tryd.underlying39 Tryd.underlying5 dst hd
      have hcv2 := hcv _ Tryd.underlying9
      rcases Int.lt_trichotomy n 0 with h1 | h1 | h1
      · have hd := dstr_neg h1
        rw [HR.out] at hd
        have t0 : decide (n < 0) = true := decide_eq_true h1
        have hl0 : l ≠ [] := by rw [← HR.out, decI_succ (by omega)]; simp
        have hlp : ((l.length : Int) == 0) = false := by rw [beq_eq_false_iff_ne]; have := List.length_pos_iff.2 hl0; omega
        have hSs : (strOfNums l).size ≤ 20 := by rw [strOfNums_size]; omega
        obtain ⟨S, hS⟩ : ∃ S, strOfNums l = S := ⟨_, rfl⟩
        rw [hS] at hcv2 hd hSs
        have HD := Lib.hid hd
        clear hd hcv h1 hS
        go_wp2_with fail
        go_ret
        exact ⟨congrArg (fun z => Ending.returned (.string z)) HD.out, hbw⟩
      · subst h1
        have hl0 : l = [] := by rw [← HR.out]; exact decI_zero
        subst hl0
        have HD := Lib.hid dstr_zero
        go_wp2_with fail
        go_ret
        exact ⟨congrArg (fun z => Ending.returned (.string z)) HD.out.symm, hbw⟩
      · have hd := dstr_pos h1
        rw [HR.out] at hd
        have t0 : decide (n < 0) = false := decide_eq_false (by omega)
        have hl0 : l ≠ [] := by rw [← HR.out, decI_succ (by omega)]; simp
        have hlp : ((l.length : Int) == 0) = false := by rw [beq_eq_false_iff_ne]; have := List.length_pos_iff.2 hl0; omega
        have HD := Lib.hid hd
        clear hd hcv h1
        go_wp2_with fail
        go_ret
        exact ⟨congrArg (fun z => Ending.returned (.string z)) HD.out, hbw⟩
    · have hkn : k.natAbs ≠ 0 := by omega
      rw [decI_succ hkn, List.append_assoc] at hgo
      have hd1 : (k.tmod 10).natAbs = k.natAbs % 10 := Int.natAbs_tmod k 10
      have hq1 : (k.tdiv 10).natAbs = k.natAbs / 10 := Int.natAbs_tdiv k 10
      rw [← hq1] at hgo
      have hll : l.length ≤ 20 := by have := congrArg List.length hgo; simp at this; omega
      have tk : (k != 0) = true := by simp [bne_iff_ne, hk0]
      obtain ⟨D, hD⟩ : ∃ D, k.tmod 10 = D := ⟨_, rfl⟩
      obtain ⟨Q, hQ⟩ : ∃ Q, k.tdiv 10 = Q := ⟨_, rfl⟩
      rw [hD] at hd1
      rw [hQ] at hq1 hgo
      have wq : IntKind.i64.wrap Q = Q := IntWalk.i64_in _ (by omega)
      have wd : IntKind.i64.wrap D = D := IntWalk.i64_in _ (by omega)
      have hQb : -9223372036854775808 ≤ Q ∧ Q ≤ 9223372036854775807 := by omega
      have hlt : Q.natAbs < k.natAbs := by omega
      obtain ⟨d, hdd, hd0, hd9⟩ : ∃ d : Int, ((k.natAbs % 10 : Nat) : Int) = d ∧ 0 ≤ d ∧ d ≤ 9 := ⟨_, rfl, by omega, by omega⟩
      rw [hdd] at hgo
      have w48 : IntKind.i64.wrap (48 + d) = 48 + d := IntWalk.i64_in _ (by omega)
      have w8 : IntKind.u8.wrap (48 + d) = 48 + d := by unfold IntKind.wrap; simp [IntKind.bits]; omega
      have HF := Lib.hid hgo
      have o2 := Own.lit1 wr w.heap.size 5 (48 + d) hbw.size
      have o3 := hown.below (bal (Below.refl _ _) (.cells #[.int .u8 (48 + d)] 5))
      have hB2 := bal hbw (.cells #[.int .u8 (48 + d)] 5)
      have hQ0 := Lib.hid hQb
      have hL0 := Lib.hid hlt
      have hK0 := Lib.hid hk
      by_cases hneg : D < 0
      · have t1 : decide (D < 0) = true := decide_eq_true hneg
        have hDd : -D = d := by omega
        have wn : IntKind.i64.wrap (-D) = d := by rw [hDd]; exact IntWalk.i64_in _ (by omega)
        clear hneg hgo hd1 hq1 hdd hDd hQb hlt hk hkn
        go_wp2_with (at_builtin; refine app_front rfl _ _ 39 rfl w.heap.size 5 i0 _ Tryd.underlying39 hi0 hz hsz hby rfl _ [48 + d] rfl o2 b c l rfl o3 (by simp; omega) hB2.size ?_; intro v2 w2 hown2 hg2 hnil)
        go_roundg Q.natAbs
        case measure => rw [HG.out]; exact hL0.out
        case rel =>
          obtain ⟨b2, c2, hv2⟩ := own_some2 hown2 (fun hh => by have h9 := hnil hh; injection h9 with h9; cases h9)
          subst hv2
          exact ⟨Q, _, b2, c2, rfl, hQ0.out, HF.out, hown2, hB2.trans (below_own (B := w.heap.size) o2 hg2 (Nat.le_refl _) hB2.size), rfl, rfl⟩
      · have t1 : decide (D < 0) = false := decide_eq_false hneg
        have hDd : D = d := by omega
        subst hDd
        clear hneg hgo hd1 hq1 hdd hQb hlt hk hkn
        go_wp2_with (at_builtin; refine app_front rfl _ _ 39 rfl w.heap.size 5 i0 _ Tryd.underlying39 hi0 hz hsz hby rfl _ [48 + D] rfl o2 b c l rfl o3 (by simp; omega) hB2.size ?_; intro v2 w2 hown2 hg2 hnil)
        go_roundg Q.natAbs
        case measure => rw [HG.out]; exact hL0.out
        case rel =>
          obtain ⟨b2, c2, hv2⟩ := own_some2 hown2 (fun hh => by have h9 := hnil hh; injection h9 with h9; cases h9)
          subst hv2
          exact ⟨Q, _, b2, c2, rfl, hQ0.out, HF.out, hown2, hB2.trans (below_own (B := w.heap.size) o2 hg2 (Nat.le_refl _) hB2.size), rfl, rfl⟩
end Go.Proofs.YtlpfhmcjacimlaaDoor
