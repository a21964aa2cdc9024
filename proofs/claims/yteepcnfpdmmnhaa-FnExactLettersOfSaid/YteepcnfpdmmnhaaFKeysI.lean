/-
  FKeysI: impl.ValidKeys.
-/
import Derived.Test.YteepcnfpdmmnhaaFKeysM
import Derived.Test.YteepcnfpdmmnhaaFPure
import Derived.Test.YteepcnfpdmmnhaaAppAt
namespace Go.Proofs.Yteepcnfpdmmnhaa
open Go.RowKit
set_option linter.unusedVariables false
attribute [local go_sem ↓] Go.wp_at_zero Go.wp_at_succ
set_option linter.unusedSimpArgs false
theorem cat_inj {x y u v : ByteArray} (hx : x.size = u.size) (h : x ++ y = u ++ v) : x = u ∧ y = v := by
  have h2 : (x ++ y).data.toList = (u ++ v).data.toList := by rw [h]
  simp only [ByteArray.data_append, Array.toList_append] at h2
  obtain ⟨e1, e2⟩ := List.append_inj h2 (by simpa using hx)
  exact ⟨tl_eq.1 (by rw [tl_data, tl_data]; exact e1), tl_eq.1 (by rw [tl_data, tl_data]; exact e2)⟩
def SQ (ks : List TKey) (k : Nat) (p1 p2 : ByteArray) (m : Nat) (c : ByteArray) : Prop := HasL (ks.take k) c ∨ (1 ≤ m ∧ c = p1) ∨ (2 ≤ m ∧ c = p2)
def DQ (ks : List TKey) (k : Nat) (p1 p2 : ByteArray) (p3 : Bool) (m : Nat) (c : ByteArray) : Prop := DeadL (ks.take k) c ∨ (((1 ≤ m ∧ c = p1) ∨ (2 ≤ m ∧ c = p2)) ∧ p3 = true)
noncomputable instance decSQ (ks : List TKey) (k : Nat) (p1 p2 : ByteArray) (m : Nat) (c : ByteArray) : Decidable (SQ ks k p1 p2 m c) := Classical.propDecidable _
noncomputable instance decDQ (ks : List TKey) (k : Nat) (p1 p2 : ByteArray) (p3 : Bool) (m : Nat) (c : ByteArray) : Decidable (DQ ks k p1 p2 p3 m c) := Classical.propDecidable _
theorem sq_upd (ks : List TKey) (k : Nat) (p1 p2 : ByteArray) (m : Nat) (hm : m = 0 ∨ m = 1) (p : ByteArray) (hp : p = if m = 0 then p1 else p2) (d : ByteArray) : (if d = p then true else decide (SQ ks k p1 p2 m d)) = decide (SQ ks k p1 p2 (m + 1) d) := by
  rw [Bool.eq_iff_iff, decide_eq_true_iff]
  unfold SQ
  rcases hm with rfl | rfl
  · simp only [if_true] at hp
    subst hp
    by_cases h : d = p <;> simp [h, SQ]
  · simp only [show ¬ (1 = 0) by omega, if_false] at hp
    subst hp
    by_cases h : d = p <;> simp [h, SQ]
theorem dq_upd (ks : List TKey) (k : Nat) (p1 p2 : ByteArray) (p3 : Bool) (m : Nat) (hm : m = 0 ∨ (m = 1 ∧ p2 ≠ p1)) (p : ByteArray) (hp : p = if m = 0 then p1 else p2) (hn : ¬ HasL (ks.take k) p) (d : ByteArray) : (if d = p then p3 else decide (DQ ks k p1 p2 p3 m d)) = decide (DQ ks k p1 p2 p3 (m + 1) d) := by
  have hd : ¬ DeadL (ks.take k) p := fun h => hn (dead_has h)
  rw [Bool.eq_iff_iff, decide_eq_true_iff]
  unfold DQ
  rcases hm with rfl | ⟨rfl, hne⟩
  · simp only [if_true] at hp
    subst hp
    by_cases h : d = p
    · subst h; simp [hd]
    · simp [h, DQ]
  · simp only [show ¬ (1 = 0) by omega, if_false] at hp
    subst hp
    by_cases h : d = p
    · subst h; simp [hd]
    · simp [h, DQ]
theorem sq_end {ks : List TKey} {k : Nat} (hk : k < ks.length) (d : ByteArray) : decide (SQ ks k ks[k].1 ks[k].2.1 2 d) = decide (HasL (ks.take (k + 1)) d) := by
  rw [Bool.eq_iff_iff, decide_eq_true_iff, decide_eq_true_iff, hasL_split hk]
  unfold SQ
  simp
theorem dq_end {ks : List TKey} {k : Nat} (hk : k < ks.length) (d : ByteArray) : decide (DQ ks k ks[k].1 ks[k].2.1 ks[k].2.2 2 d) = decide (DeadL (ks.take (k + 1)) d) := by
  rw [Bool.eq_iff_iff, decide_eq_true_iff, decide_eq_true_iff, deadL_split hk]
  unfold DQ
  simp
theorem sq_start (ks : List TKey) (k : Nat) (p1 p2 d : ByteArray) : decide (HasL (ks.take k) d) = decide (SQ ks k p1 p2 0 d) := by
  rw [Bool.eq_iff_iff, decide_eq_true_iff, decide_eq_true_iff]
  unfold SQ
  simp
theorem dq_start (ks : List TKey) (k : Nat) (p1 p2 : ByteArray) (p3 : Bool) (d : ByteArray) : decide (DeadL (ks.take k) d) = decide (DQ ks k p1 p2 p3 0 d) := by
  rw [Bool.eq_iff_iff, decide_eq_true_iff, decide_eq_true_iff]
  unfold DQ
  simp
def MQ (az : List TAccent) (k : Nat) (c : ByteArray) : Prop := ∃ j, ∃ h : j < az.length, j < k ∧ az[j].2.2 = c
def PQ (az : List TAccent) (k : Nat) (c : ByteArray) : Prop := ∃ j, ∃ h : j < az.length, j < k ∧ az[j].1 ++ az[j].2.1 = c
noncomputable instance decMQ (az : List TAccent) (k : Nat) (c : ByteArray) : Decidable (MQ az k c) := Classical.propDecidable _
noncomputable instance decPQ (az : List TAccent) (k : Nat) (c : ByteArray) : Decidable (PQ az k c) := Classical.propDecidable _
theorem mq_upd (az : List TAccent) (k : Nat) (hk : k < az.length) (d : ByteArray) : (if d = az[k].2.2 then true else decide (MQ az k d)) = decide (MQ az (k + 1) d) := by
  rw [Bool.eq_iff_iff, decide_eq_true_iff]
  by_cases h : d = az[k].2.2
  · rw [if_pos h]
    exact ⟨fun _ => ⟨k, hk, by omega, h.symm⟩, fun _ => rfl⟩
  · rw [if_neg h, decide_eq_true_iff]
    constructor
    · rintro ⟨j, hj, hjk, he⟩; exact ⟨j, hj, by omega, he⟩
    · rintro ⟨j, hj, hjk, he⟩
      by_cases hx : j = k
      · subst hx; exact absurd he.symm h
      · exact ⟨j, hj, by omega, he⟩
theorem pq_upd (az : List TAccent) (k : Nat) (hk : k < az.length) (d : ByteArray) : (if d = az[k].1 ++ az[k].2.1 then true else decide (PQ az k d)) = decide (PQ az (k + 1) d) := by
  rw [Bool.eq_iff_iff, decide_eq_true_iff]
  by_cases h : d = az[k].1 ++ az[k].2.1
  · rw [if_pos h]
    exact ⟨fun _ => ⟨k, hk, by omega, h.symm⟩, fun _ => rfl⟩
  · rw [if_neg h, decide_eq_true_iff]
    constructor
    · rintro ⟨j, hj, hjk, he⟩; exact ⟨j, hj, by omega, he⟩
    · rintro ⟨j, hj, hjk, he⟩
      by_cases hx : j = k
      · subst hx; exact absurd he.symm h
      · exact ⟨j, hj, by omega, he⟩
theorem mq_zero (az : List TAccent) (d : ByteArray) : false = decide (MQ az 0 d) := by
  symm; rw [decide_eq_false_iff_not]; rintro ⟨j, _, h, _⟩; omega
theorem pq_zero (az : List TAccent) (d : ByteArray) : false = decide (PQ az 0 d) := by
  symm; rw [decide_eq_false_iff_not]; rintro ⟨j, _, h, _⟩; omega
theorem has_zero (ks : List TKey) (d : ByteArray) : false = decide (HasL (ks.take 0) d) := by
  symm; rw [decide_eq_false_iff_not]; rintro ⟨j, h, _⟩; simp at h
theorem dead_zero (ks : List TKey) (d : ByteArray) : false = decide (DeadL (ks.take 0) d) := by
  symm; rw [decide_eq_false_iff_not]; rintro ⟨j, h, _⟩; simp at h
theorem accN_of {ks : List TKey} {az : List TAccent} {k : Nat} (hup : KeysUp ks) (hacc : ∀ i (h : i < az.length), i < k → AccK ks az[i] ∧ AccN az i az[i]) {a : TAccent} (h1 : HasL ks a.1) : AccN az k a ↔ ¬ MQ az k a.2.2 ∧ ¬ PQ az k (a.1 ++ a.2.1) := by
  constructor
  · intro h
    refine ⟨fun ⟨j, hj, hjk, he⟩ => (h j hj hjk).1 he, fun ⟨j, hj, hjk, he⟩ => (h j hj hjk).2 ?_⟩
    have e1 := (letter_of_has hup (hacc j hj hjk).1.1.1).1
    have e2 := (letter_of_has hup h1).1
    exact cat_inj (by omega) he
  · rintro ⟨q1, q2⟩ j hj hjk
    exact ⟨fun he => q1 ⟨j, hj, hjk, he⟩, fun he => q2 ⟨j, hj, hjk, by rw [he.1, he.2]⟩⟩
theorem zeroBoolK (w : World) : (zeroValue 4).run Try.prog w = .ok (.bool false) w := by kernel_rfl
theorem lookK {w : World} {b n : Nat} {g : ByteArray → Bool} (h : SMap w Try.prog 9 4 b n g) (c : ByteArray) (hc : c.size ≤ 2097152) {v : Bool} (hv : g c = v) :
    (Instr.lookup 201 (.map (some b)) (.string c) false).run Try.prog w = .ok (.bool v) w :=
  h.look Try.underlying9 Try.underlying201 Try.underlying4 (zeroBoolK w) c (by unfold maxLen; omega) hv
set_option maxHeartbeats 12800000 in
set_option maxRecDepth 10000 in
theorem impl_ValidKeys_any (A : Option Addr) (c : Nat) (ks : List TKey) (hx : ks.length ≤ 1048576) (hk : ∀ x ∈ ks, KKey x) (hcap : ks.length ≤ c) (B : Option Addr) (d : Nat) (az : List TAccent) (hy : az.length ≤ 1048576) (hm : ∀ x ∈ az, KAccent x) (w : World) (rx : Row w A encKey 3 ks) (ry : Row w B encAccent 3 az) :
    Calls Try.prog 119 #[.slice A ks.length c, .slice B az.length d] w (RBb (KeysOk ks az) w) := by
  rcases ff2 (ks.length ≤ 40) (az.length ≤ 20) with h1 | ⟨h1, h2⟩ | ⟨h1, h2⟩
  · have te : decide ((40 : Int) < (ks.length : Int)) = true := by simp; omega
    have HN := Lib.hid h1
    clear h1
    go_enter Try.func119, Try.ntmps119
    go_wp2_with fail
    go_ret
    exact RBb.mk (nott fun hh => HN.out hh.1.1) (Below.refl _ _)
  · have te : decide ((40 : Int) < (ks.length : Int)) = false := by simp; omega
    have te2 : decide ((20 : Int) < (az.length : Int)) = true := by simp; omega
    have HN := Lib.hid h2
    clear h1 h2
    go_enter Try.func119, Try.ntmps119
    go_wp2_with fail
    go_ret
    exact RBb.mk (nott fun hh => HN.out hh.1.2) (Below.refl _ _)
  have te : decide ((40 : Int) < (ks.length : Int)) = false := by simp; omega
  have te2 : decide ((20 : Int) < (az.length : Int)) = false := by simp; omega
  have hmk := @run_makeMap Try.prog
  have hs0 : SMap ((w.alloc (.map #[] 0)).alloc (.map #[] 0)) Try.prog 9 4 w.heap.size (2 * 0) (fun c => decide (HasL (ks.take 0) c)) := ((SMap.made w Try.prog 9 4).below (bal (Below.refl _ _) _)).congr (has_zero ks)
  have hd0 : SMap ((w.alloc (.map #[] 0)).alloc (.map #[] 0)) Try.prog 9 4 (w.heap.size + 1) (2 * 0) (fun c => decide (DeadL (ks.take 0) c)) := by
    have := (SMap.made (w.alloc (.map #[] 0)) Try.prog 9 4).congr (dead_zero ks)
    have e : (w.alloc (.map #[] 0)).heap.size = w.heap.size + 1 := by simp [go_sem]
    rw [e] at this
    exact this
  have hB0 : Below w.heap.size w ((w.alloc (.map #[] 0)).alloc (.map #[] 0)) := bal (bal (Below.refl _ _) _) _
  go_enter Try.func119, Try.ntmps119
  go_wp2_with fail
  go_loopg [27] ks.length (fun g is wr => ∃ k : Nat, k ≤ ks.length ∧ g = ks.length - k ∧ (∀ i, i < k → KeyP ks i) ∧ SMap wr Try.prog 9 4 w.heap.size (2 * k) (fun c => decide (HasL (ks.take k) c)) ∧ SMap wr Try.prog 9 4 (w.heap.size + 1) (2 * k) (fun c => decide (DeadL (ks.take k) c)) ∧ Below w.heap.size w wr ∧ is = .int .i64 k)
  case atStart => exact ⟨0, Nat.zero_le _, rfl, fun i h => absurd h (by omega), hs0, hd0, hB0, rfl⟩
  case round =>
    obtain ⟨k, hkk, hg, hup, hs, hd, hbw, rfl⟩ := hrel
    have HG := Lib.hid hg
    have HUp := Lib.hid hup
    clear hg hup hs0 hd0
    by_cases hlt : k < ks.length
    · obtain ⟨b, off, hA, hb, c0, c1, c2⟩ := (rx.below hbw).at3 (f := fun x : TKey => .string x.1) (g := fun x : TKey => .string x.2.1) (i := fun x : TKey => .bool x.2.2) hlt
      subst hA
      have hkx := hk _ (List.getElem_mem hlt)
      have HKP := Lib.hid (show KeyP ks k ↔ ((LetterOk ks[k].1 ∧ LetterOk ks[k].2.1) ∧ ks[k].1 ≠ ks[k].2.1 ∧ ¬ HasL (ks.take k) ks[k].1 ∧ ¬ HasL (ks.take k) ks[k].2.1) from ⟨fun ⟨_, q⟩ => q, fun q => ⟨hlt, q⟩⟩)
      have HSE := Lib.hid (sq_end hlt)
      have HDE := Lib.hid (dq_end hlt)
      obtain ⟨p1, hp1⟩ : ∃ p, ks[k].1 = p := ⟨_, rfl⟩
      obtain ⟨p2, hp2⟩ : ∃ p, ks[k].2.1 = p := ⟨_, rfl⟩
      obtain ⟨p3, hp3⟩ : ∃ p, ks[k].2.2 = p := ⟨_, rfl⟩
      rw [hp1] at c0
      rw [hp2] at c1
      rw [hp3] at c2
      have hkp := HKP.out
      have hse := HSE.out
      have hde := HDE.out
      rw [hp1, hp2] at hkp hse
      rw [hp1, hp2, hp3] at hde
      have HKQ := Lib.hid hkp
      have HSQ := Lib.hid hse
      have HDQ := Lib.hid hde
      have hs1 : p1.size ≤ 1048576 := by rw [← hp1]; exact hkx.1
      have hs2 : p2.size ≤ 1048576 := by rw [← hp2]; exact hkx.2
      clear hkx hp1 hp2 hp3 hkp hse hde HKP HSE HDE
      have i1 : (0 : Int) ≤ (k : Int) := by omega
      have i2 : (k : Int) < (ks.length : Int) := by omega
      obtain ⟨W4, hW4⟩ : ∃ W4, W4 = (wr.alloc (.cells #[.string p1, .string p2, .bool p3] 166)).alloc (.cells #[.string p1, .string p2] 9) := ⟨_, rfl⟩
      have hbq : Below wr.heap.size wr W4 := by rw [hW4]; exact bal (bal (Below.refl _ _) _) _
      obtain ⟨cb, hcb⟩ : ∃ cb, cb = wr.heap.size := ⟨_, rfl⟩
      have hcn : w.heap.size + 1 < cb := by rw [hcb]; exact hd.lt
      have q0 : cb + 1 < W4.heap.size := by rw [hW4, hcb]; simp
      have q1 : W4.cell? ⟨cb, 2, none⟩ = some (.bool p3) := by rw [hW4, hcb]; simp [go_sem]
      have q2 : W4.cell? ⟨cb + 1, 0, none⟩ = some (.string p1) := by rw [hW4, hcb]; simp [go_sem]
      have q3 : W4.cell? ⟨cb + 1, 1, none⟩ = some (.string p2) := by rw [hW4, hcb]; simp [go_sem]
      have hs4 := (hs.below hbq).congr (sq_start ks k p1 p2)
      have hd4 := (hd.below hbq).congr (dq_start ks k p1 p2 p3)
      have hb4 := bnext hbw hbq
      go_wp2_with fail
      rw [← hW4, ← hcb]
      clear hW4 hcb hbq hs hd
      go_loopg [37] 2 (fun g2 js wr => ∃ m : Nat, m ≤ 2 ∧ g2 = 2 - m ∧ (1 ≤ m → LetterOk p1 ∧ ¬ HasL (ks.take k) p1) ∧ (2 ≤ m → LetterOk p2 ∧ p2 ≠ p1 ∧ ¬ HasL (ks.take k) p2) ∧ SMap wr Try.prog 9 4 w.heap.size (2 * k + m) (fun c => decide (SQ ks k p1 p2 m c)) ∧ SMap wr Try.prog 9 4 (w.heap.size + 1) (2 * k + m) (fun c => decide (DQ ks k p1 p2 p3 m c)) ∧ Below w.heap.size w wr ∧ (cb + 1 < wr.heap.size ∧ wr.cell? ⟨cb, 2, none⟩ = some (.bool p3) ∧ wr.cell? ⟨cb + 1, 0, none⟩ = some (.string p1) ∧ wr.cell? ⟨cb + 1, 1, none⟩ = some (.string p2)) ∧ js = .int .i64 m)
      case atStart => exact ⟨0, by omega, rfl, fun h => absurd h (by omega), fun h => absurd h (by omega), hs4, hd4, hb4, ⟨q0, q1, q2, q3⟩, rfl⟩
      case round =>
        obtain ⟨m, hm2, hg2, hl1, hl2, hs5, hd5, hbw2, ⟨z0, z1, z2, z3⟩, rfl⟩ := hrel
        have HG2 := Lib.hid hg2
        have HL1 := Lib.hid hl1
        have HL2 := Lib.hid hl2
        clear hg2 hl1 hl2 hs4 hd4 q0 q1 q2 q3
        rcases (by omega : m = 0 ∨ m = 1 ∨ m = 2) with rfl | rfl | rfl
        · by_cases h1 : LetterOk p1
          case neg =>
            have HN := Lib.hid h1
            clear h1
            go_wp2_with (go_at_call 131; refine (RB.no (isLetter_any p1 hs1 _) HN.out).mono ?_; rintro e w5 ⟨rfl, rfl⟩)
            go_ret
            exact RBb.mk (nott fun hh => HN.out (by have q := HKQ.out.1 (hh.2.1 k hlt); exact q.1.1)) hbw2
          have H1 := Lib.hid h1
          clear h1
          by_cases h2 : SQ ks k p1 p2 0 p1
          case pos =>
            have hlk := lookK hs5 p1 (by omega) (decide_eq_true h2)
            have HN := Lib.hid h2
            clear h2
            go_wp2_with (go_at_call 131; refine (RB.yes (isLetter_any p1 hs1 _) H1.out).mono ?_; rintro e w5 ⟨rfl, rfl⟩)
            go_ret
            exact RBb.mk (nott fun hh => by
              have q := HKQ.out.1 (hh.2.1 k hlt)
              rcases HN.out with h | ⟨h, h3⟩ | ⟨h, h3⟩
              · exact q.2.2.1 h
              · omega
              · omega) hbw2
          have hlk := lookK hs5 p1 (by omega) (decide_eq_false h2)
          have H2 := Lib.hid h2
          have hnh : ¬ HasL (ks.take k) p1 := fun q => h2 (.inl q)
          have HNH := Lib.hid hnh
          skip
          clear h2 hnh
          go_wp2_with (first | (go_at_call 131; refine (RB.yes (isLetter_any p1 hs1 _) H1.out).mono ?_; rintro e w5 ⟨rfl, rfl⟩) | (at_mapUpdate; refine wpList_update_smap _ rfl _ _ _ _ rfl _ _ Try.underlying9 Try.underlying201 Try.underlying4 _ _ _ (by unfold maxLen; omega) rfl hs5 p1 (by unfold maxLen; have := hs1; omega) true rfl rfl ?_; intro w6 hs6 hg6; have y1 := (grown_cell hg6 (show cb < _ by omega) (by simp; omega)).trans z1; have y2 := (grown_cell hg6 (show cb + 1 < _ by omega) (by simp; omega)).trans z2; have y3 := (grown_cell hg6 (show cb + 1 < _ by omega) (by simp; omega)).trans z3; have hd6 := hd5.kept hg6 (by simp); have hz6 := hg6.size) | (at_mapUpdate; refine wpList_update_smap _ rfl _ _ _ _ rfl _ _ Try.underlying9 Try.underlying201 Try.underlying4 _ _ _ (by unfold maxLen; omega) rfl hd6 p1 (by unfold maxLen; have := hs1; omega) p3 rfl rfl ?_; intro w7 hd7 hg7))
          go_roundg (2 - (0 + 1))
          case measure => rw [HG2.out]; omega
          case rel =>
            have hs7 := hs6.kept hg7 (by simp)
            refine ⟨0 + 1, by omega, rfl, fun _ => ⟨H1.out, HNH.out⟩, fun h => absurd h (by omega), hs7.congr (sq_upd ks k p1 p2 0 (by omega) p1 rfl), hd7.congr (dq_upd ks k p1 p2 p3 0 (.inl rfl) p1 rfl HNH.out), below_grown (below_grown hbw2 hg6 hbw2.size (Nat.le_refl _)) hg7 (Nat.le_trans hbw2.size hz6) (by omega), ⟨Nat.lt_of_lt_of_le (Nat.lt_of_lt_of_le z0 hz6) hg7.size, (grown_cell hg7 (show cb < _ by omega) (by simp; omega)).trans y1, (grown_cell hg7 (show cb + 1 < _ by omega) (by simp; omega)).trans y2, (grown_cell hg7 (show cb + 1 < _ by omega) (by simp; omega)).trans y3⟩, by go_num⟩
        · by_cases h1 : LetterOk p2
          case neg =>
            have HN := Lib.hid h1
            clear h1
            go_wp2_with (go_at_call 131; refine (RB.no (isLetter_any p2 hs2 _) HN.out).mono ?_; rintro e w5 ⟨rfl, rfl⟩)
            go_ret
            exact RBb.mk (nott fun hh => HN.out (by have q := HKQ.out.1 (hh.2.1 k hlt); exact q.1.2)) hbw2
          have H1 := Lib.hid h1
          clear h1
          by_cases h2 : SQ ks k p1 p2 1 p2
          case pos =>
            have hlk := lookK hs5 p2 (by omega) (decide_eq_true h2)
            have HN := Lib.hid h2
            clear h2
            go_wp2_with (go_at_call 131; refine (RB.yes (isLetter_any p2 hs2 _) H1.out).mono ?_; rintro e w5 ⟨rfl, rfl⟩)
            go_ret
            exact RBb.mk (nott fun hh => by
              have q := HKQ.out.1 (hh.2.1 k hlt)
              rcases HN.out with h | ⟨h, h3⟩ | ⟨h, h3⟩
              · exact q.2.2.2 h
              · exact q.2.1 h3.symm
              · omega) hbw2
          have hlk := lookK hs5 p2 (by omega) (decide_eq_false h2)
          have H2 := Lib.hid h2
          have hnh : ¬ HasL (ks.take k) p2 := fun q => h2 (.inl q)
          have HNH := Lib.hid hnh
          have HNE := Lib.hid (fun q => h2 (.inr (.inl ⟨Nat.le_refl _, q⟩)) : ¬ p2 = p1)
          clear h2 hnh
          go_wp2_with (first | (go_at_call 131; refine (RB.yes (isLetter_any p2 hs2 _) H1.out).mono ?_; rintro e w5 ⟨rfl, rfl⟩) | (at_mapUpdate; refine wpList_update_smap _ rfl _ _ _ _ rfl _ _ Try.underlying9 Try.underlying201 Try.underlying4 _ _ _ (by unfold maxLen; omega) rfl hs5 p2 (by unfold maxLen; have := hs2; omega) true rfl rfl ?_; intro w6 hs6 hg6; have y1 := (grown_cell hg6 (show cb < _ by omega) (by simp; omega)).trans z1; have y2 := (grown_cell hg6 (show cb + 1 < _ by omega) (by simp; omega)).trans z2; have y3 := (grown_cell hg6 (show cb + 1 < _ by omega) (by simp; omega)).trans z3; have hd6 := hd5.kept hg6 (by simp); have hz6 := hg6.size) | (at_mapUpdate; refine wpList_update_smap _ rfl _ _ _ _ rfl _ _ Try.underlying9 Try.underlying201 Try.underlying4 _ _ _ (by unfold maxLen; omega) rfl hd6 p2 (by unfold maxLen; have := hs2; omega) p3 rfl rfl ?_; intro w7 hd7 hg7))
          go_roundg (2 - (1 + 1))
          case measure => rw [HG2.out]; omega
          case rel =>
            have hs7 := hs6.kept hg7 (by simp)
            refine ⟨1 + 1, by omega, rfl, fun _ => HL1.out (by omega), fun _ => ⟨H1.out, HNE.out, HNH.out⟩, hs7.congr (sq_upd ks k p1 p2 1 (by omega) p2 rfl), hd7.congr (dq_upd ks k p1 p2 p3 1 (.inr ⟨rfl, HNE.out⟩) p2 rfl HNH.out), below_grown (below_grown hbw2 hg6 hbw2.size (Nat.le_refl _)) hg7 (Nat.le_trans hbw2.size hz6) (by omega), ⟨Nat.lt_of_lt_of_le (Nat.lt_of_lt_of_le z0 hz6) hg7.size, (grown_cell hg7 (show cb < _ by omega) (by simp; omega)).trans y1, (grown_cell hg7 (show cb + 1 < _ by omega) (by simp; omega)).trans y2, (grown_cell hg7 (show cb + 1 < _ by omega) (by simp; omega)).trans y3⟩, by go_num⟩
        · have HY := Lib.hid (show KeyP ks k from HKQ.out.2 ⟨⟨(HL1.out (by omega)).1, (HL2.out (by omega)).1⟩, fun h => (HL2.out (by omega)).2.1 h.symm, (HL1.out (by omega)).2, (HL2.out (by omega)).2.2⟩)
          go_wp2_with fail
          go_roundg (ks.length - (k + 1))
          case measure => rw [HG.out]; omega
          case rel => exact ⟨k + 1, by omega, rfl, fun i hi => (Nat.lt_succ_iff_lt_or_eq.1 hi).elim (HUp.out i) (fun hh => by subst hh; exact HY.out), hs5.congr HSQ.out, hd5.congr HDQ.out, hbw2, by go_num⟩
    · have HKU := Lib.hid (show KeysUp ks from fun i hi => HUp.out i (by omega))
      have hes : ks.take k = ks := List.take_of_length_le (by omega)
      rw [hes] at hs hd
      obtain ⟨b3, hb3⟩ : ∃ b3, b3 = wr.heap.size := ⟨_, rfl⟩
      have hn3 : w.heap.size + 1 < b3 := by rw [hb3]; exact hd.lt
      have hbq : Below wr.heap.size wr ((wr.alloc (.map #[] 0)).alloc (.map #[] 0)) := bal (bal (Below.refl _ _) _) _
      have hs5 := hs.below hbq
      have hd5 := hd.below hbq
      have hm5 : SMap ((wr.alloc (.map #[] 0)).alloc (.map #[] 0)) Try.prog 9 4 b3 (0) (fun c => decide (MQ az 0 c)) := by rw [hb3]; exact ((SMap.made wr Try.prog 9 4).below (bal (Below.refl _ _) _)).congr (mq_zero az)
      have hp5 : SMap ((wr.alloc (.map #[] 0)).alloc (.map #[] 0)) Try.prog 9 4 (b3 + 1) (0) (fun c => decide (PQ az 0 c)) := by
        have := (SMap.made (wr.alloc (.map #[] 0)) Try.prog 9 4).congr (pq_zero az)
        have e : (wr.alloc (.map #[] 0)).heap.size = b3 + 1 := by rw [hb3]; simp [go_sem]
        rw [e] at this
        exact this
      have hb5 := bnext hbw hbq
      have HS5 := Lib.hid hs5
      have HD5 := Lib.hid hd5
      clear hs5 hd5 hs hd hes
      go_wp2_with fail
      rw [← hb3]
      clear hb3
      go_loopg [61] az.length (fun g is wr => ∃ k2 : Nat, k2 ≤ az.length ∧ g = az.length - k2 ∧ (∀ i (h : i < az.length), i < k2 → AccK ks az[i] ∧ AccN az i az[i]) ∧ SMap wr Try.prog 9 4 w.heap.size (2 * k) (fun c => decide (HasL ks c)) ∧ SMap wr Try.prog 9 4 (w.heap.size + 1) (2 * k) (fun c => decide (DeadL ks c)) ∧ SMap wr Try.prog 9 4 b3 (k2) (fun c => decide (MQ az k2 c)) ∧ SMap wr Try.prog 9 4 (b3 + 1) (k2) (fun c => decide (PQ az k2 c)) ∧ Below w.heap.size w wr ∧ is = .int .i64 k2)
      case atStart => exact ⟨0, Nat.zero_le _, rfl, fun i h hi => absurd hi (by omega), HS5.out, HD5.out, hm5, hp5, hb5, rfl⟩
      case round =>
        obtain ⟨k2, hkk2, hg2, hacc, hs, hd, hmm, hpp, hbw2, rfl⟩ := hrel
        have HG2 := Lib.hid hg2
        have HAcc := Lib.hid hacc
        clear hg2 hacc hm5 hp5 hb5 hbq HS5 HD5
        by_cases hlt : k2 < az.length
        · obtain ⟨b, off, hA, hb, c0, c1, c2⟩ := (ry.below hbw2).at3 (f := fun x : TAccent => .string x.1) (g := fun x : TAccent => .string x.2.1) (i := fun x : TAccent => .string x.2.2) hlt
          subst hA
          have hma := hm _ (List.getElem_mem hlt)
          have HMU := Lib.hid (mq_upd az k2 hlt)
          have HPU := Lib.hid (pq_upd az k2 hlt)
          obtain ⟨a, ha⟩ : ∃ a, az[k2] = a := ⟨_, rfl⟩
          have hmu := HMU.out
          have hpu := HPU.out
          rw [ha] at c0 c1 c2 hma hmu hpu
          have HA := Lib.hid ha
          clear ha HMU HPU
          obtain ⟨a1, a2, a3⟩ := a
          simp only at c0 c1 c2 hmu hpu
          have HMU := Lib.hid hmu
          have HPU := Lib.hid hpu
          clear hmu hpu
          have hz1 : a1.size ≤ 1048576 := hma.1
          have hz2 : a2.size ≤ 1048576 := hma.2.1
          have hz3 : a3.size ≤ 1048576 := hma.2.2
          clear hma
          have hz12 : (a1 ++ a2).size ≤ 2097152 := by rw [ByteArray.size_append]; omega
          have HZ12 := Lib.hid hz12
          clear hz12
          have i1 : (0 : Int) ≤ (k2 : Int) := by omega
          have i2 : (k2 : Int) < (az.length : Int) := by omega
          have hbq : Below wr.heap.size wr (wr.alloc (.cells #[.string a1, .string a2, .string a3] 168)) := bal (Below.refl _ _) _
          have hs6 := hs.below hbq
          have hd6 := hd.below hbq
          have hm6 := hmm.below hbq
          have hp6 := hpp.below hbq
          have hb6 := bnext hbw2 hbq
          have hcbl : b3 + 1 < wr.heap.size := hpp.lt
          have q0 : wr.heap.size < (wr.alloc (.cells #[.string a1, .string a2, .string a3] 168)).heap.size := by simp
          have q1 : (wr.alloc (.cells #[.string a1, .string a2, .string a3] 168)).cell? ⟨wr.heap.size, 0, none⟩ = some (.string a1) := by simp [go_sem]
          have q2 : (wr.alloc (.cells #[.string a1, .string a2, .string a3] 168)).cell? ⟨wr.heap.size, 1, none⟩ = some (.string a2) := by simp [go_sem]
          have Q0 := Lib.hid q0
          have Q1 := Lib.hid q1
          have Q2 := Lib.hid q2
          clear q0 q1 q2 hbq hs hd hmm hpp
          by_cases q1 : HasL ks a1
          case neg =>
            have hlk1 := lookK hs6 a1 (by omega) (decide_eq_false q1)
            have HN := Lib.hid q1
            clear q1
            go_wp2_with fail
            go_ret
            exact RBb.mk (nott fun hh => by have q := (hh.2.2 k2 hlt).1; rw [HA.out] at q; exact HN.out q.1.1) hb6
          have hlk1 := lookK hs6 a1 (by omega) (decide_eq_true q1)
          have Q19 := Lib.hid q1
          clear q1
          by_cases q2 : DeadL ks a1
          case neg =>
            have hlk2 := lookK hd6 a1 (by omega) (decide_eq_false q2)
            have HN := Lib.hid q2
            clear q2
            go_wp2_with fail
            go_ret
            exact RBb.mk (nott fun hh => by have q := (hh.2.2 k2 hlt).1; rw [HA.out] at q; exact HN.out q.1.2) hb6
          have hlk2 := lookK hd6 a1 (by omega) (decide_eq_true q2)
          have Q29 := Lib.hid q2
          clear q2
          by_cases q3 : HasL ks a2
          case neg =>
            have hlk3 := lookK hs6 a2 (by omega) (decide_eq_false q3)
            have HN := Lib.hid q3
            clear q3
            go_wp2_with fail
            go_ret
            exact RBb.mk (nott fun hh => by have q := (hh.2.2 k2 hlt).1; rw [HA.out] at q; exact HN.out q.2.1.1) hb6
          have hlk3 := lookK hs6 a2 (by omega) (decide_eq_true q3)
          have Q39 := Lib.hid q3
          clear q3
          by_cases q4 : DeadL ks a2
          case pos =>
            have hlk4 := lookK hd6 a2 (by omega) (decide_eq_true q4)
            have HN := Lib.hid q4
            clear q4
            go_wp2_with fail
            go_ret
            exact RBb.mk (nott fun hh => by have q := (hh.2.2 k2 hlt).1; rw [HA.out] at q; exact q.2.1.2 HN.out) hb6
          have hlk4 := lookK hd6 a2 (by omega) (decide_eq_false q4)
          have Q49 := Lib.hid q4
          clear q4
          by_cases q5 : LetterOk a3
          case neg =>
            have HN := Lib.hid q5
            clear q5
            go_wp2_with (go_at_call 131; refine (RB.no (isLetter_any a3 hz3 _) HN.out).mono ?_; rintro e w5 ⟨rfl, rfl⟩)
            go_ret
            exact RBb.mk (nott fun hh => by have q := (hh.2.2 k2 hlt).1; rw [HA.out] at q; exact HN.out q.2.2.2) hb6
          have HL3 := Lib.hid q5
          clear q5
          by_cases q6 : HasL ks a3
          case pos =>
            have hlk6 := lookK hs6 a3 (by omega) (decide_eq_true q6)
            have HN := Lib.hid q6
            clear q6
            go_wp2_with (go_at_call 131; refine (RB.yes (isLetter_any a3 hz3 _) HL3.out).mono ?_; rintro e w5 ⟨rfl, rfl⟩)
            go_ret
            exact RBb.mk (nott fun hh => by have q := (hh.2.2 k2 hlt).1; rw [HA.out] at q; exact q.2.2.1 HN.out) hb6
          have hlk6 := lookK hs6 a3 (by omega) (decide_eq_false q6)
          have Q69 := Lib.hid q6
          clear q6
          have HNN := Lib.hid (accN_of (a := (a1, a2, a3)) HKU.out HAcc.out Q19.out)
          by_cases q7 : MQ az k2 a3
          case pos =>
            have hlk7 := lookK hm6 a3 (by omega) (decide_eq_true q7)
            have HN := Lib.hid q7
            clear q7
            go_wp2_with (go_at_call 131; refine (RB.yes (isLetter_any a3 hz3 _) HL3.out).mono ?_; rintro e w5 ⟨rfl, rfl⟩)
            go_ret
            exact RBb.mk (nott fun hh => by have q := (hh.2.2 k2 hlt).2; rw [HA.out] at q; exact (HNN.out.1 q).1 HN.out) hb6
          have hlk7 := lookK hm6 a3 (by omega) (decide_eq_false q7)
          have Q79 := Lib.hid q7
          clear q7
          by_cases q8 : PQ az k2 (a1 ++ a2)
          case pos =>
            have hlk8 := lookK hp6 (a1 ++ a2) HZ12.out (decide_eq_true q8)
            have HN := Lib.hid q8
            clear q8
            go_wp2_with (go_at_call 131; refine (RB.yes (isLetter_any a3 hz3 _) HL3.out).mono ?_; rintro e w5 ⟨rfl, rfl⟩)
            go_ret
            exact RBb.mk (nott fun hh => by have q := (hh.2.2 k2 hlt).2; rw [HA.out] at q; exact (HNN.out.1 q).2 HN.out) hb6
          have hlk8 := lookK hp6 (a1 ++ a2) HZ12.out (decide_eq_false q8)
          have Q89 := Lib.hid q8
          clear q8
          have HY := Lib.hid (And.intro (show AccK ks (a1, a2, a3) from ⟨⟨Q19.out, Q29.out⟩, ⟨Q39.out, Q49.out⟩, Q69.out, HL3.out⟩) (HNN.out.2 ⟨Q79.out, Q89.out⟩))
          go_wp2_with (first | (go_at_call 131; refine (RB.yes (isLetter_any a3 hz3 _) HL3.out).mono ?_; rintro e w5 ⟨rfl, rfl⟩) | (at_mapUpdate; refine wpList_update_smap _ rfl _ _ _ _ rfl _ _ Try.underlying9 Try.underlying201 Try.underlying4 _ _ _ (by unfold maxLen; omega) rfl hm6 a3 (by unfold maxLen; have := hz3; omega) true rfl rfl ?_; intro w6 hm7 hg6; have y1 := (grown_cell hg6 Q0.out (by simp; omega)).trans Q1.out; have y2 := (grown_cell hg6 Q0.out (by simp; omega)).trans Q2.out; have hp7 := hp6.kept hg6 (by simp); have hz6 := hg6.size) | (at_mapUpdate; refine wpList_update_smap _ rfl _ _ _ _ rfl _ _ Try.underlying9 Try.underlying201 Try.underlying4 _ _ _ (by unfold maxLen; omega) rfl hp7 (a1 ++ a2) (by unfold maxLen; have := HZ12.out; omega) true rfl rfl ?_; intro w7 hp8 hg7))
          go_roundg (az.length - (k2 + 1))
          case measure => rw [HG2.out]; omega
          case rel =>
            have hs7 := (hs6.kept hg6 (by simp; omega)).kept hg7 (by simp; omega)
            have hd7 := (hd6.kept hg6 (by simp; omega)).kept hg7 (by simp; omega)
            have hm8 := hm7.kept hg7 (by simp)
            exact ⟨k2 + 1, by omega, rfl, fun i h hi => (Nat.lt_succ_iff_lt_or_eq.1 hi).elim (HAcc.out i h) (fun hh => by subst hh; rw [HA.out]; exact HY.out), hs7, hd7, hm8.congr HMU.out, hp8.congr HPU.out, below_grown (below_grown hb6 hg6 hb6.size (by omega)) hg7 (Nat.le_trans hb6.size hz6) (by omega), by go_num⟩
        · have HAU := Lib.hid (show AccsUp ks az from fun i h => HAcc.out i h (by omega))
          go_wp2_with fail
          go_ret
          exact RBb.mk (yest ⟨⟨h1, h2⟩, HKU.out, HAU.out⟩) hbw2
end Go.Proofs.Yteepcnfpdmmnhaa
