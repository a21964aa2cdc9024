/-
  FPressesFor: the presses that type a text: PressesFor, spec and impl.
-/
import Derived.Test.YteigdlgijdmfkaaFPresses
import Derived.Test.YteigdlgijdmfkaaFPressesI
import Derived.Test.YteigdlgijdmfkaaFPressesC
import Derived.Test.YteigdlgijdmfkaaTPress
namespace Go.Proofs.Yteigdlgijdmfkaa
open Go.RowKit
set_option linter.unusedVariables false
attribute [local go_sem ↓] Go.wp_at_zero Go.wp_at_succ
set_option linter.unusedSimpArgs false
theorem app_own_list {P : Program} {w : World} {α : Type} {e : α → List Value} {ops : Array Oper} {rest : List Oper} {o : Oper} {a : Act} {Q : Exit → Act → World → Prop} (hgd : o.guard = none) (sO xO : Operand) (t : TypeId)
    (ho : o.op = .call { callee := .builtin .append, args := #[sO, xO], argTypes := #[t, t] })
    (base : Nat) (E : TypeId) (i : TypeInfo) (z : Value) (size bytes : Nat) (ht : P.underlying t = some (.slice E)) (hi : P.info? E = some i) (hz : i.zero = some z)
    (hsize : i.size = size) (hby : i.bytes = bytes) (hzs : z.cells.size = size) (hsz : 0 < size)
    (v : Value) (ys : List α) (hs : a.eval sO = v) (hown : Own w base E e size v ys)
    (ad : Addr) (c : Nat) (xs : List α) (hx : a.eval xO = .slice (some ad) xs.length c) (hnews : ∀ j u, (xs.flatMap e)[j]? = some u → w.cell? (ad.add j) = some u) (h1 : ∀ u ∈ xs.flatMap e, u.oneCell' = true)
    (h63 : ys.length + xs.length ≤ maxLen) (hbytes : (ys.length + xs.length) * bytes ≤ 140737488355328) (hbase : base ≤ w.heap.size)
    (h : ∀ v' w', Own w' base E e size v' (ys ++ xs) → w.grownBy w' v.ownBlock → wpList P ops Q rest (a.put o.dst v') w') :
    wpList P ops Q (o :: rest) a w := by
  refine wpList_append_own_at _ hgd sO xO t ho base E i z size bytes ht hi hz hsize hby hzs hsz v ys.length (ys.flatMap e) hs hown.2 ad xs.length c (xs.flatMap e) hx (flatMap_len hown.1 xs) hnews h1 h63 hbytes hbase ?_
  intro v' w' ho' hg _ hat
  refine h v' w' ⟨hown.1, ?_⟩ hg
  rw [List.flatMap_append, List.length_append]
  exact ho'
theorem own_news {w : World} {α : Type} {e : α → List Value} {s : Nat} {base : Nat} {E : TypeId} {v : Value} {xs : List α} (h : Own w base E e s v xs) (hne : xs ≠ []) :
    ∃ g c, v = .slice (some ⟨g, 0, none⟩) xs.length c ∧ ∀ j u, (xs.flatMap e)[j]? = some u → w.cell? ((⟨g, 0, none⟩ : Addr).add j) = some u := by
  obtain ⟨h0, h1, h2⟩ := h
  rcases h2 with ⟨_, hn⟩ | ⟨g, cap, cur, rfl, hg, hh, hnc, hcm, hcs, htk⟩
  · exact absurd (List.eq_nil_of_length_eq_zero hn) hne
  · exact ⟨g, cap, rfl, fun j u hu => World.ownsRow.cells (w := w) (base := base) (e := E) (size := s) (v := .slice (some ⟨g, 0, none⟩) xs.length cap) (n := xs.length) (xs := xs.flatMap e) ⟨h1, .inr ⟨g, cap, cur, rfl, hg, hh, hnc, hcm, hcs, htk⟩⟩ (g := g) rfl j u hu⟩
theorem one_press (xs : List TPress) : ∀ u ∈ xs.flatMap encPress, u.oneCell' = true := by
  intro u hu
  obtain ⟨x, _, hx⟩ := List.mem_flatMap.1 hu
  simp only [List.mem_cons, List.not_mem_nil, or_false] at hx
  rcases hx with rfl | rfl <;> rfl
noncomputable def prsGo (ks : List TKey) (az : List TAccent) (text : ByteArray) : Nat → Nat → List TPress → List TPress × Int
  | 0, _, out => (out, 0)
  | n + 1, i, out => if presV ks az (text.extract i (i + 1)) = [] then ([], 3) else prsGo ks az text n (i + 1) (out ++ presV ks az (text.extract i (i + 1)))
noncomputable def M_PressesFor (ks : List TKey) (az : List TAccent) (text : ByteArray) : List TPress × Int :=
  if KeysOk ks az then (if TextOk text 33 100 then prsGo ks az text text.size 0 [] else ([], 2)) else ([], 1)
theorem prs_step (ks : List TKey) (az : List TAccent) (text : ByteArray) (i : Nat) (h : i < text.size) (out : List TPress) : prsGo ks az text (text.size - i) i out = if presV ks az (text.extract i (i + 1)) = [] then ([], 3) else prsGo ks az text (text.size - (i + 1)) (i + 1) (out ++ presV ks az (text.extract i (i + 1))) := by
  rw [show text.size - i = (text.size - (i + 1)) + 1 by omega, prsGo]
set_option maxHeartbeats 2400000 in
set_option maxRecDepth 10000 in
theorem spec_PressesFor_any (A : Option Addr) (c : Nat) (ks : List TKey) (hx : ks.length ≤ 1048576) (hk : ∀ x ∈ ks, KKey x) (hcap : ks.length ≤ c) (B : Option Addr) (d : Nat) (az : List TAccent) (hy : az.length ≤ 1048576) (hm : ∀ x ∈ az, KAccent x) (text : ByteArray) (hs : text.size ≤ 1048576) (w : World) (rx : Row w A encKey 3 ks) (ry : Row w B encAccent 3 az) :
    Calls Try.prog 21 #[.slice A ks.length c, .slice B az.length d, .string text] w (RLE encPress 2 78 (M_PressesFor ks az text) w) := by
  obtain ⟨i0, hi0, hz, hsz, hby⟩ := info_parts infoPress
  have cd := fun (w' : World) (rx : Row w' A encKey 3 ks) (ry : Row w' B encAccent 3 az) => l02Code_any A c ks hx hk hcap B d az hy hm text hs w' rx ry
  by_cases h : KeysOk ks az
  case neg =>
    have HM := Lib.hid (show M_PressesFor ks az text = ([], 1) by unfold M_PressesFor; rw [if_neg h])
    rw [show codeV ks az text = 1 by unfold codeV; rw [if_neg h]] at cd
    go_enter Try.func21, Try.ntmps21
    go_wp2_with (go_at_call 59; refine (cd _ rx ry).mono ?_; rintro e w1 ⟨n1, rfl, hn, hb1⟩; subst hn)
    go_ret2
    exact RLE.no (fun _ => rfl) HM.out.symm hb1
  by_cases h2 : TextOk text 33 100
  case neg =>
    have HM := Lib.hid (show M_PressesFor ks az text = ([], 2) by unfold M_PressesFor; rw [if_pos h, if_neg h2])
    rw [show codeV ks az text = 2 by unfold codeV; rw [if_pos h, if_neg h2]] at cd
    go_enter Try.func21, Try.ntmps21
    go_wp2_with (go_at_call 59; refine (cd _ rx ry).mono ?_; rintro e w1 ⟨n1, rfl, hn, hb1⟩; subst hn)
    go_ret2
    exact RLE.no (fun _ => rfl) HM.out.symm hb1
  rw [show codeV ks az text = 0 by unfold codeV; rw [if_pos h, if_pos h2]] at cd
  have h100 : text.size ≤ 100 := by have := h2.1; omega
  obtain ⟨R, hR⟩ : ∃ R, R = prsGo ks az text text.size 0 [] := ⟨_, rfl⟩
  have HM := Lib.hid (show M_PressesFor ks az text = R by unfold M_PressesFor; rw [if_pos h, if_pos h2, hR])
  have HR := Lib.hid hR
  have HK := Lib.hid h
  have HK2 := Lib.hid h2
  clear hR h2
  go_enter Try.func21, Try.ntmps21
  go_wp2_with (go_at_call 59; refine (cd _ rx ry).mono ?_; rintro e w1 ⟨n1, rfl, hn, hb1⟩; subst hn)
  have o1 := Own.lit0 (e := encPress) (s := 2) w1 (fun _ => rfl) w.heap.size 78 hb1.size
  have hbL := bal hb1 (.cells #[] 78)
  go_loopg [9, 10] text.size (fun g vs is wr => ∃ (i : Nat) (acc : List TPress), i ≤ text.size ∧ g = text.size - i ∧ acc.length ≤ 2 * i ∧ prsGo ks az text (text.size - i) i acc = R ∧ Own wr w.heap.size 78 encPress 2 vs acc ∧ Below w.heap.size w wr ∧ is = .int .i64 i)
  case atStart => exact ⟨0, [], Nat.zero_le _, rfl, Nat.zero_le _, HR.out.symm, o1, hbL, rfl⟩
  case round =>
    obtain ⟨i, acc, hi, hg, hal, hgo, hown, hbw, rfl⟩ := hrel
    have HG := Lib.hid hg
    clear hg
    by_cases hlt : i < text.size
    · rw [prs_step ks az text i hlt] at hgo
      have i1 : (0 : Int) ≤ (i : Int) := by omega
      have i2 : (i : Int) < (text.size : Int) := by omega
      have i3 : (i : Int) + 1 ≤ (text.size : Int) := by omega
      have i4 : (i : Int) ≤ (i : Int) + 1 := by omega
      have hpl := presV_len ks az (text.extract i (i + 1))
      obtain ⟨V, hV⟩ : ∃ V, V = presV ks az (text.extract i (i + 1)) := ⟨_, rfl⟩
      have pc := fun (w' : World) (r : Row w' A encKey 3 ks) (r2 : Row w' B encAccent 3 az) => l02Presses_any A c ks hx B d az HK.out (text.extract i (i + 1)) w' r r2
      rw [← hV] at hgo hpl pc
      have PC := Lib.hid pc
      have HGo := Lib.hid hgo
      clear pc hgo hV
      by_cases hv : V = []
      · have hgo := HGo.out
        rw [if_pos hv] at hgo
        have HF := Lib.hid hgo
        clear hgo HGo
        subst hv
        go_wp2_with (go_at_call 60; refine (PC.out _ (rx.below hbw) (ry.below hbw)).mono ?_; rintro e w5 ⟨v5, y5, rfl, hy5, hl5, ho5, hb5⟩; obtain ⟨A5, c5, rfl, r5, q5⟩ := ho5.form; subst hy5)
        go_ret2
        exact RLE.no (fun _ => rfl) (HM.out.trans HF.out.symm).symm (hbw.trans (hb5.mono hbw.size))
      · have hgo := HGo.out
        rw [if_neg hv] at hgo
        have HF := Lib.hid hgo
        have hvl : 0 < V.length := List.length_pos_iff.2 hv
        have hv0 : ((V.length : Int) == 0) = false := by rw [beq_eq_false_iff_ne]; omega
        clear hgo HGo
        go_wp2_with (first | (go_at_call 60; refine (PC.out _ (rx.below hbw) (ry.below hbw)).mono ?_; rintro e w5 ⟨v5, y5, rfl, hy5, hl5, ho5, hb5⟩; obtain ⟨g5, c5, rfl, n5⟩ := own_news ho5 (by rw [hy5]; exact hv); subst hy5; have o5 := hown.below hb5; have hB5 := hbw.trans (hb5.mono hbw.size)) | (at_builtin; refine app_own_list rfl _ _ 34 rfl w.heap.size 78 i0 _ 2 16 Try.underlying34 hi0 hz hsz hby rfl (by decide) _ acc rfl o5 ⟨g5, 0, none⟩ c5 _ rfl n5 (one_press _) (by unfold maxLen; omega) (by omega) hB5.size ?_; intro v6 w6 hown6 hg6))
        go_roundg (text.size - (i + 1))
        case measure => rw [HG.out]; omega
        case rel =>
          have hb7 := below_own (B := w.heap.size) o5 hg6 (Nat.le_refl _) hB5.size
          exact ⟨i + 1, _, by omega, rfl, by rw [List.length_append]; omega, HF.out, hown6, hB5.trans hb7, by go_num⟩
    · have hfin : (acc, (0 : Int)) = R := by rw [← hgo, show text.size - i = 0 by omega]; rfl
      have HF := Lib.hid hfin
      clear hfin hgo
      go_wp2_with fail
      go_ret2
      exact RLE.mk (HM.out.trans HF.out.symm).symm (by omega) hown hbw
set_option maxHeartbeats 2400000 in
set_option maxRecDepth 10000 in
theorem impl_PressesFor_any (A : Option Addr) (c : Nat) (ks : List TKey) (hx : ks.length ≤ 1048576) (hk : ∀ x ∈ ks, KKey x) (hcap : ks.length ≤ c) (B : Option Addr) (d : Nat) (az : List TAccent) (hy : az.length ≤ 1048576) (hm : ∀ x ∈ az, KAccent x) (text : ByteArray) (hs : text.size ≤ 1048576) (w : World) (rx : Row w A encKey 3 ks) (ry : Row w B encAccent 3 az) :
    Calls Try.prog 22 #[.slice A ks.length c, .slice B az.length d, .string text] w (RLE encPress 2 78 (M_PressesFor ks az text) w) := by
  obtain ⟨i0, hi0, hz, hsz, hby⟩ := info_parts infoPress
  by_cases h : KeysOk ks az
  case neg =>
    have HM := Lib.hid (show M_PressesFor ks az text = ([], 1) by unfold M_PressesFor; rw [if_neg h])
    go_enter Try.func22, Try.ntmps22
    go_wp2_with (go_at_call 53; refine (RBb.no (impl_ValidKeys_any A c ks hx hk hcap B d az hy hm _ rx ry) h).mono ?_; rintro e w1 ⟨rfl, hb1⟩)
    go_ret2
    exact RLE.no (fun _ => rfl) HM.out.symm hb1
  by_cases h2 : TextOk text 33 100
  case neg =>
    have HM := Lib.hid (show M_PressesFor ks az text = ([], 2) by unfold M_PressesFor; rw [if_pos h, if_neg h2])
    go_enter Try.func22, Try.ntmps22
    go_wp2_with (first | (go_at_call 53; refine (RBb.yes (impl_ValidKeys_any A c ks hx hk hcap B d az hy hm _ rx ry) h).mono ?_; rintro e w1 ⟨rfl, hb1⟩) | (go_at_call 61; refine (RB.no (isText_any text hs 33 100 (by omega) (by omega) _) h2).mono ?_; rintro e w2 ⟨rfl, rfl⟩))
    go_ret2
    exact RLE.no (fun _ => rfl) HM.out.symm hb1
  have h100 : text.size ≤ 100 := by have := h2.1; omega
  obtain ⟨R, hR⟩ : ∃ R, R = prsGo ks az text text.size 0 [] := ⟨_, rfl⟩
  have HM := Lib.hid (show M_PressesFor ks az text = R by unfold M_PressesFor; rw [if_pos h, if_pos h2, hR])
  have HR := Lib.hid hR
  have HK := Lib.hid h
  have HK2 := Lib.hid h2
  clear hR 
  go_enter Try.func22, Try.ntmps22
  go_wp2_with (first | (go_at_call 53; refine (RBb.yes (impl_ValidKeys_any A c ks hx hk hcap B d az hy hm _ rx ry) h).mono ?_; rintro e w1 ⟨rfl, hb1⟩) | (go_at_call 61; refine (RB.yes (isText_any text hs 33 100 (by omega) (by omega) _) h2).mono ?_; rintro e w2 ⟨rfl, rfl⟩))
  have o1 := Own.lit0 (e := encPress) (s := 2) w1 (fun _ => rfl) w.heap.size 78 hb1.size
  have hbL := bal hb1 (.cells #[] 78)
  go_loopg [8, 21] text.size (fun g vs is wr => ∃ (i : Nat) (acc : List TPress), i ≤ text.size ∧ g = text.size - i ∧ acc.length ≤ 2 * i ∧ prsGo ks az text (text.size - i) i acc = R ∧ Own wr w.heap.size 78 encPress 2 vs acc ∧ Below w.heap.size w wr ∧ is = .int .i64 i)
  case atStart => exact ⟨0, [], Nat.zero_le _, rfl, Nat.zero_le _, HR.out.symm, o1, hbL, rfl⟩
  case round =>
    obtain ⟨i, acc, hi, hg, hal, hgo, hown, hbw, rfl⟩ := hrel
    have HG := Lib.hid hg
    clear hg
    by_cases hlt : i < text.size
    · rw [prs_step ks az text i hlt] at hgo
      have i1 : (0 : Int) ≤ (i : Int) := by omega
      have i2 : (i : Int) < (text.size : Int) := by omega
      have i3 : (i : Int) + 1 ≤ (text.size : Int) := by omega
      have i4 : (i : Int) ≤ (i : Int) + 1 := by omega
      have hpl := presV_len ks az (text.extract i (i + 1))
      obtain ⟨V, hV⟩ : ∃ V, V = presV ks az (text.extract i (i + 1)) := ⟨_, rfl⟩
      have pc := fun (w' : World) (r : Row w' A encKey 3 ks) (r2 : Row w' B encAccent 3 az) => pressesOf_any A c ks hx B d az HK.out (text.extract i (i + 1)) w' r r2
      rw [← hV] at hgo hpl pc
      have PC := Lib.hid pc
      have HGo := Lib.hid hgo
      clear pc hgo hV
      by_cases hv : V = []
      · have hgo := HGo.out
        rw [if_pos hv] at hgo
        have HF := Lib.hid hgo
        clear hgo HGo
        subst hv
        go_wp2_with (go_at_call 62; refine (PC.out _ (rx.below hbw) (ry.below hbw)).mono ?_; rintro e w5 ⟨v5, y5, rfl, hy5, hl5, ho5, hb5⟩; obtain ⟨A5, c5, rfl, r5, q5⟩ := ho5.form; subst hy5)
        go_ret2
        exact RLE.no (fun _ => rfl) (HM.out.trans HF.out.symm).symm (hbw.trans (hb5.mono hbw.size))
      · have hgo := HGo.out
        rw [if_neg hv] at hgo
        have HF := Lib.hid hgo
        have hvl : 0 < V.length := List.length_pos_iff.2 hv
        have hv0 : ((V.length : Int) == 0) = false := by rw [beq_eq_false_iff_ne]; omega
        clear hgo HGo
        go_wp2_with (first | (go_at_call 62; refine (PC.out _ (rx.below hbw) (ry.below hbw)).mono ?_; rintro e w5 ⟨v5, y5, rfl, hy5, hl5, ho5, hb5⟩; obtain ⟨g5, c5, rfl, n5⟩ := own_news ho5 (by rw [hy5]; exact hv); subst hy5; have o5 := hown.below hb5; have hB5 := hbw.trans (hb5.mono hbw.size)) | (at_builtin; refine app_own_list rfl _ _ 34 rfl w.heap.size 78 i0 _ 2 16 Try.underlying34 hi0 hz hsz hby rfl (by decide) _ acc rfl o5 ⟨g5, 0, none⟩ c5 _ rfl n5 (one_press _) (by unfold maxLen; omega) (by omega) hB5.size ?_; intro v6 w6 hown6 hg6))
        go_roundg (text.size - (i + 1))
        case measure => rw [HG.out]; omega
        case rel =>
          have hb7 := below_own (B := w.heap.size) o5 hg6 (Nat.le_refl _) hB5.size
          exact ⟨i + 1, _, by omega, rfl, by rw [List.length_append]; omega, HF.out, hown6, hB5.trans hb7, by go_num⟩
    · have hfin : (acc, (0 : Int)) = R := by rw [← hgo, show text.size - i = 0 by omega]; rfl
      have HF := Lib.hid hfin
      clear hfin hgo
      go_wp2_with fail
      go_ret2
      exact RLE.mk (HM.out.trans HF.out.symm).symm (by omega) hown hbw
end Go.Proofs.Yteigdlgijdmfkaa
