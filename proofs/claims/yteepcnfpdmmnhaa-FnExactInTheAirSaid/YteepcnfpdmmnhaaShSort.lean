/-
  ShSort: sort.Slice's contract at this program, laid by the kit's shelf tools (plain words); and what it does to a row of numbers that is sorted already. Printed by wip/gen_shsort.py.
-/
import Derived.Shelf.GgSortFunc.Whole
import Derived.Shelf.GgSortFunc.Tiny
import Derived.Deep.QuietTactic
import Derived.Lib.RowBridge
import Derived.Lib.SortBridge
import Derived.Lib.AppendIntMem
import Derived.Sort.LotA
import Derived.Test.YteepcnfpdmmnhaaFSwap
import Derived.Test.YteepcnfpdmmnhaaAppAt
namespace Go.Proofs.Yteepcnfpdmmnhaa
open Go.Shelf
def sortRen : Go.Shelf.Ren := ⟨fun | 6 => 73 | 10 => 125 | 11 => 126 | 12 => 127 | 13 => 128 | 14 => 129 | 24 => 152 | 25 => 153 | 26 => 154 | 27 => 155 | 28 => 156 | 29 => 157 | 30 => 158 | 31 => 159 | 32 => 160 | 33 => 161 | 34 => 166 | 35 => 167 | 36 => 168 | 37 => 169 | 38 => 170 | 39 => 171 | n => n, fun | 20 => 20 | 26 => 107 | 35 => 181 | 0 => 0 | 37 => 183 | 3 => 3 | 41 => 187 | 44 => 190 | 49 => 206 | 51 => 208 | 4 => 4 | 54 => 211 | 53 => 210 | 58 => 114 | 5 => 5 | 9 => 9 | 60 => 217 | 64 => 221 | 66 => 223 | 67 => 224 | 17 => 17 | 32 => 178 | 33 => 179 | 82 => 239 | 12 => 12 | 75 => 232 | 76 => 233 | 77 => 234 | 78 => 235 | 79 => 236 | 80 => 237 | n => n, fun | n => n⟩
theorem sortLays : Go.Proofs.LaysGg.n6 Try.prog sortRen := {
  mixed := by kernel_rfl
  f6 := Try.func73.trans (congrArg some (by kernel_rfl))
  f10 := Try.func125.trans (congrArg some (by kernel_rfl))
  f11 := Try.func126.trans (congrArg some (by kernel_rfl))
  f12 := Try.func127.trans (congrArg some (by kernel_rfl))
  f13 := Try.func128.trans (congrArg some (by kernel_rfl))
  f14 := Try.func129.trans (congrArg some (by kernel_rfl))
  f24 := Try.func152.trans (congrArg some (by kernel_rfl))
  f25 := Try.func153.trans (congrArg some (by kernel_rfl))
  f26 := Try.func154.trans (congrArg some (by kernel_rfl))
  f27 := Try.func155.trans (congrArg some (by kernel_rfl))
  f28 := Try.func156.trans (congrArg some (by kernel_rfl))
  f29 := Try.func157.trans (congrArg some (by kernel_rfl))
  f30 := Try.func158.trans (congrArg some (by kernel_rfl))
  f31 := Try.func159.trans (congrArg some (by kernel_rfl))
  f32 := Try.func160.trans (congrArg some (by kernel_rfl))
  f33 := Try.func161.trans (congrArg some (by kernel_rfl))
  f34 := Try.func166.trans (congrArg some (by kernel_rfl))
  f35 := Try.func167.trans (congrArg some (by kernel_rfl))
  f36 := Try.func168.trans (congrArg some (by kernel_rfl))
  f37 := Try.func169.trans (congrArg some (by kernel_rfl))
  f38 := Try.func170.trans (congrArg some (by kernel_rfl))
  f39 := Try.func171.trans (congrArg some (by kernel_rfl))
  t0 := Try.underlying0
  a0 := Try.isAgg0
  z0 := Try.sizeOf0
  v0 := Try.zeroValue0
  i0 := by kernel_rfl
  t3 := Try.underlying3
  a3 := Try.isAgg3
  z3 := Try.sizeOf3
  v3 := Try.zeroValue3
  i3 := by kernel_rfl
  t4 := Try.underlying4
  a4 := Try.isAgg4
  z4 := Try.sizeOf4
  v4 := Try.zeroValue4
  i4 := by kernel_rfl
  t5 := Try.underlying5
  a5 := Try.isAgg5
  z5 := Try.sizeOf5
  v5 := Try.zeroValue5
  i5 := by kernel_rfl
  t9 := Try.underlying9
  a9 := Try.isAgg9
  z9 := Try.sizeOf9
  v9 := Try.zeroValue9
  i9 := by kernel_rfl
  t12 := Try.underlying12
  a12 := Try.isAgg12
  z12 := Try.sizeOf12
  v12 := Try.zeroValue12
  i12 := by kernel_rfl
  t17 := Try.underlying17
  a17 := Try.isAgg17
  z17 := Try.sizeOf17
  v17 := Try.zeroValue17
  i17 := by kernel_rfl
  t20 := Try.underlying20
  a20 := Try.isAgg20
  z20 := Try.sizeOf20
  v20 := Try.zeroValue20
  i20 := by kernel_rfl
  t26 := Try.underlying107
  a26 := Try.isAgg107
  z26 := Try.sizeOf107
  v26 := Try.zeroValue107
  i26 := by kernel_rfl
  t32 := Try.underlying178
  a32 := Try.isAgg178
  z32 := Try.sizeOf178
  v32 := Try.zeroValue178
  i32 := by kernel_rfl
  t33 := Try.underlying179
  a33 := Try.isAgg179
  z33 := Try.sizeOf179
  v33 := Try.zeroValue179
  i33 := by kernel_rfl
  t35 := Try.underlying181
  a35 := Try.isAgg181
  z35 := Try.sizeOf181
  v35 := Try.zeroValue181
  i35 := by kernel_rfl
  t37 := Try.underlying183
  a37 := Try.isAgg183
  z37 := Try.sizeOf183
  v37 := Try.zeroValue183
  i37 := by kernel_rfl
  t41 := Try.underlying187
  a41 := Try.isAgg187
  z41 := Try.sizeOf187
  v41 := Try.zeroValue187
  i41 := by kernel_rfl
  t44 := Try.underlying190
  a44 := Try.isAgg190
  z44 := Try.sizeOf190
  v44 := Try.zeroValue190
  i44 := by kernel_rfl
  t49 := Try.underlying206
  a49 := Try.isAgg206
  z49 := Try.sizeOf206
  v49 := Try.zeroValue206
  i49 := by kernel_rfl
  t51 := Try.underlying208
  a51 := Try.isAgg208
  z51 := Try.sizeOf208
  v51 := Try.zeroValue208
  i51 := by kernel_rfl
  t53 := Try.underlying210
  a53 := Try.isAgg210
  z53 := Try.sizeOf210
  v53 := Try.zeroValue210
  i53 := by kernel_rfl
  t54 := Try.underlying211
  a54 := Try.isAgg211
  z54 := Try.sizeOf211
  v54 := Try.zeroValue211
  i54 := by kernel_rfl
  t58 := Try.underlying114
  a58 := Try.isAgg114
  z58 := Try.sizeOf114
  v58 := Try.zeroValue114
  i58 := by kernel_rfl
  t60 := Try.underlying217
  a60 := Try.isAgg217
  z60 := Try.sizeOf217
  v60 := Try.zeroValue217
  i60 := by kernel_rfl
  t64 := Try.underlying221
  a64 := Try.isAgg221
  z64 := Try.sizeOf221
  v64 := Try.zeroValue221
  i64 := by kernel_rfl
  t66 := Try.underlying223
  a66 := Try.isAgg223
  z66 := Try.sizeOf223
  v66 := Try.zeroValue223
  i66 := by kernel_rfl
  t67 := Try.underlying224
  a67 := Try.isAgg224
  z67 := Try.sizeOf224
  v67 := Try.zeroValue224
  i67 := by kernel_rfl
  t75 := Try.underlying232
  a75 := Try.isAgg232
  z75 := Try.sizeOf232
  v75 := Try.zeroValue232
  i75 := by kernel_rfl
  t76 := Try.underlying233
  a76 := Try.isAgg233
  z76 := Try.sizeOf233
  v76 := Try.zeroValue233
  i76 := by kernel_rfl
  t77 := Try.underlying234
  a77 := Try.isAgg234
  z77 := Try.sizeOf234
  v77 := Try.zeroValue234
  i77 := by kernel_rfl
  t78 := Try.underlying235
  a78 := Try.isAgg235
  z78 := Try.sizeOf235
  v78 := Try.zeroValue235
  i78 := by kernel_rfl
  t79 := Try.underlying236
  a79 := Try.isAgg236
  z79 := Try.sizeOf236
  v79 := Try.zeroValue236
  i79 := by kernel_rfl
  t80 := Try.underlying237
  a80 := Try.isAgg237
  z80 := Try.sizeOf237
  v80 := Try.zeroValue237
  i80 := by kernel_rfl
  t82 := Try.underlying239
  a82 := Try.isAgg239
  z82 := Try.sizeOf239
  v82 := Try.zeroValue239
  i82 := by kernel_rfl }
open Go.RowKit Go.Lib Go.Sort in
theorem own_same (n : Nat) (w : World) (os : Array Obj) (h : n ≤ w.heap.size) : Below n w (grow w os) := below_grow n w h 0 os
noncomputable def soT : TypeInfo := (Try.prog.info? 26).get (by kernel_rfl)
noncomputable def soE : TypeInfo := (Try.prog.info? 2).get (by kernel_rfl)
theorem soK (n : Nat) (h2 : 2 ≤ n) : Lib.swapperK n soE 6 = 5 := by
  have a : soE.hasPointers = false := by kernel_rfl
  have b : soE.bytes = 8 := by kernel_rfl
  have c : (n == 0) = false := by simp; omega
  have d : (n == 1) = false := by simp; omega
  simp [Lib.swapperK, a, b, c, d]
open Go.RowKit Go.Lib Go.Sort in
theorem ints_sorted (d d' : Array Int) (hp : PermIn 0 d.size d d') (hs : SortedIn ltInt 0 d.size d') (hd : d.toList.Pairwise (· ≤ ·)) : d' = d := by
  have h := sorted_unique_holds (lt := ltInt) swo_ltInt (fun x y h1 h2 => by simp only [ltInt, decide_eq_false_iff_not] at h1 h2; omega) d d' hp hs
  have e : (fun x y : Int => !ltInt y x) = fun x y => decide (x ≤ y) := by
    funext x y
    simp only [ltInt]
    by_cases h : x ≤ y
    · first | (simp [h]; done) | (simp [h]; omega)
    · first | (simp [h]; done) | (simp [h]; omega)
  rw [e] at h
  rw [List.mergeSort_of_pairwise (hd.imp (fun hh => by simpa using hh))] at h
  exact Array.ext' h
open Go.RowKit Go.Lib Go.Sort in
set_option maxHeartbeats 2000000 in
theorem less_air (blk off c Bs size : Nat) (W : World) (G : Nat → Int) (hs : W.cell? ⟨Bs, 0, none⟩ = some (.slice (some ⟨blk, off, none⟩) size c))
    (hc : ∀ t, t < size → W.cell? ⟨blk, off + t, none⟩ = some (.int .i64 (G t))) (i j : Nat) (hi : i < size) (hj : j < size) :
    Calls Try.prog 74 #[.int .i64 i, .int .i64 j, .pointer (some ⟨Bs, 0, none⟩)] W fun e w' => e = .returned (.bool (decide (G i < G j))) ∧ ∃ q, w' = W.drewN q := by
  have ci := hc i hi
  have cj := hc j hj
  have i1 : (0 : Int) ≤ (i : Int) := by omega
  have i2 : (i : Int) < (size : Int) := by omega
  have j1 : (0 : Int) ≤ (j : Int) := by omega
  have j2 : (j : Int) < (size : Int) := by omega
  go_enter Try.func74, Try.ntmps74
  go_wp2
  go_quiet (fail)
  go_wp2
  go_ret
  exact ⟨rfl, nq, rfl⟩
open Go.RowKit Go.Lib Go.Sort in
theorem sort_tiny (p : Option Addr) (n c : Nat) (h1 : n ≤ 1) (lf : Fn) (la lb : Array Value) (w : World) :
    Calls Try.prog 73 #[.iface 26 (.slice p n c), .func lf la lb] w fun e w' => e = .returned (.tuple #[]) ∧ Below w.heap.size w w' := by
  have hK : Lib.swapperK n soE 6 = n + 1 := by
    rcases Nat.eq_zero_or_pos n with h | h
    · subst h; simp [Lib.swapperK]
    · obtain rfl : n = 1 := by omega
      simp [Lib.swapperK]
  have hS := Any.sort_Slice_tiny sortLays 26 2 soT soE (by kernel_rfl) (by kernel_rfl) (by kernel_rfl) (by kernel_rfl) 6 (fun _ => by kernel_rfl) p n c h1 (143 + n) (by
    rw [hK]
    rcases Nat.eq_zero_or_pos n with h | h
    · subst h; kernel_rfl
    · obtain rfl : n = 1 := by omega
      kernel_rfl) lf la lb w
  change Calls Try.prog 73 _ _ _ at hS
  refine hS.mono ?_
  rintro e w' ⟨rfl, os, rfl⟩
  exact ⟨rfl, own_same _ w os (Nat.le_refl _)⟩
open Go.RowKit Go.Lib Go.Sort in
set_option maxHeartbeats 2000000 in
theorem sort_air (A : Option Addr) (c : Nat) (ds : List Int) (hd : ds.Pairwise (· ≤ ·)) (hl : ds.length ≤ 1048576) (Bs base : Nat) (w : World) (ho : Own w base 2 encInt 1 (.slice A ds.length c) ds) (hs : w.cell? ⟨Bs, 0, none⟩ = some (.slice A ds.length c)) (hap : Apart (.slice A ds.length c) Bs) (hlt : Bs < w.heap.size) :
    Calls Try.prog 73 #[.iface 26 (.slice A ds.length c), .func (.func 74) #[] #[.pointer (some ⟨Bs, 0, none⟩)]] w fun e w' => e = .returned (.tuple #[]) ∧ Below w.heap.size w w' := by
  by_cases h2 : 2 ≤ ds.length
  · obtain ⟨g, cp, hgg⟩ := own_some ho (by omega)
    simp only [Value.slice.injEq] at hgg
    obtain ⟨rfl, _, rfl⟩ := hgg
    have hblk := ho.blk
    have hH : Holds (Value.int .i64) w g 0 ds.toArray := by
      have h0 := Lib.holds_of_ints (w := w) (b := g) (off := 0) (n := ds.length) (zs := ds) (Nat.le_refl _) (fun j hj => by
        have := ho.cell (k := j) (j := 0) (u := .int .i64 ds[j]) hj rfl
        rw [Nat.zero_add, List.getD_eq_getElem?_getD, List.getElem?_eq_getElem hj]
        simpa using this) (fun j hj => ho.frozen _)
      rw [List.take_length] at h0
      exact h0
    have hne : Bs ≠ g := fun hh => hap g rfl hh.symm
    have hless : LessReads Try.prog 74 #[.pointer (some ⟨Bs, 0, none⟩)] (Value.int .i64) ltInt g 0 ds.toArray.size w := by
      intro m os dk hsz i j hi hj
      have e : sortWorld (Value.int .i64) w g 0 m dk os = putRow (Value.int .i64) (grow (Sort.ahead w m) os) g 0 dk := by
        unfold sortWorld; rw [putRow_grow _ (Sort.ahead w m) _ g 0 _ hblk.2]
      have hHg : Holds (Value.int .i64) (grow (Sort.ahead w m) os) g 0 ds.toArray := holds_grow _ _ _ g 0 ds.toArray hblk.2 (holds_ahead _ _ _ _ _ _ hH)
      refine less_air g 0 c Bs ds.length _ (fun t => dk[t]!) ?_ (fun t ht => ?_) i j (by simpa using hi) (by simpa using hj)
      · rw [e, cell?_putRow_other _ _ g 0 dk _ (Or.inl hne), cell?_grow _ _ _ (by show Bs < w.heap.size; omega)]
        exact hs
      · rw [e]; exact cell?_putRow _ _ g 0 ds.toArray dk hHg hsz t (by rw [hsz]; simpa using ht)
    have hS := Any.sort_Slice_sorted sortLays 26 2 soT soE (by kernel_rfl) (by kernel_rfl) (by kernel_rfl) (by kernel_rfl) 6 (fun _ => by kernel_rfl) (by kernel_rfl) (fun _ => by kernel_rfl) (Value.int .i64) (fun _ => rfl) ltInt swo_ltInt 74 _
      (enters_of Try.func74 (by kernel_rfl) rfl) g 0 c ds.toArray (by simpa using h2) (by simp; omega) 147 (by rw [soK _ (by simpa using h2)]; kernel_rfl) true
      (fun args W => run_callFunc_extern Try.func147 (by kernel_rfl) (by kernel_rfl) (by kernel_rfl) (e := Extern.ReflectliteSwapper.swap true) (by kernel_rfl) args W) w hless hH hblk.2
    change Calls Try.prog 73 _ _ _ at hS
    have hsz : ds.toArray.size = ds.length := by simp
    rw [hsz] at hS
    refine hS.mono ?_
    rintro e w' ⟨rfl, d', n, os, hp, hso, rfl⟩
    have hdd : d' = ds.toArray := ints_sorted ds.toArray d' (by rw [hsz]; exact hp) (by rw [hsz]; exact hso) (by simpa using hd)
    rw [hdd]
    refine ⟨rfl, ?_⟩
    rw [putRow_self _ _ g 0 ds.toArray (holds_ahead _ _ _ _ _ _ hH)]
    exact below_grow w.heap.size w (Nat.le_refl _) n os
  · exact sort_tiny A ds.length c (by omega) (.func 74) #[] #[.pointer (some ⟨Bs, 0, none⟩)] w
end Go.Proofs.Yteepcnfpdmmnhaa
