/-
  MText: the text that the laws mark a string with: laws.markText.
-/
import Derived.Test.YteepcnfpdmmnhaaData
import Derived.Laws.BytesArg
namespace Go.Proofs.Yteepcnfpdmmnhaa
open Go.RowKit
set_option linter.unusedVariables false
attribute [local go_sem ↓] Go.wp_at_zero Go.wp_at_succ
def digB (k : Int) : ByteArray := strOfNums [48 + k % 10]
def mtGo : Nat → Int → ByteArray → ByteArray
  | 0, _, s => s
  | g + 1, k, s => if 0 < k then mtGo g (k / 10) (digB k ++ s) else s
def mtext (k : Int) : ByteArray := ⟨#[109]⟩ ++ mtGo 20 k ByteArray.empty
set_option maxHeartbeats 3200000 in
set_option maxRecDepth 10000 in
theorem markText_any (k : Int) (h0 : 1 ≤ k) (h9 : k ≤ 4398049656832) (w : World) :
    Calls Try.prog 95 #[.int .i64 k] w fun e w' => e = .returned (.string (mtext k)) ∧ Below w.heap.size w w' := by
  obtain ⟨R, hR⟩ : ∃ R, R = mtGo 20 k ByteArray.empty := ⟨_, rfl⟩
  have HM := Lib.hid (show mtext k = ⟨#[109]⟩ ++ R by unfold mtext; rw [hR])
  have HR := Lib.hid hR
  clear hR
  have hk : ¬ (k ≤ 0) := by omega
  have hd : decide (k ≤ 0) = false := decide_eq_false hk
  go_enter Try.func95, Try.ntmps95
  go_wp2
  go_loopg [0, 3] 20 (fun g ks ss wr => ∃ (G : Nat) (n : Int) (s : ByteArray), g = G ∧ 0 ≤ n ∧ n < 10 ^ G ∧ n ≤ 4398049656832 ∧ s.size + G ≤ 20 ∧ mtGo G n s = R ∧ Below w.heap.size w wr ∧ ks = .int .i64 n ∧ ss = .string s)
  case atStart => exact ⟨20, k, ByteArray.empty, rfl, by omega, by omega, h9, by simp, HR.out.symm, Below.refl _ _, rfl, rfl⟩
  case round =>
    obtain ⟨g, n, s, hgG, hn0, hn9, hn99, hsz, hgo, hbw, rfl, rfl⟩ := hrel
    have HgG := Lib.hid hgG
    clear hgG
    by_cases hp : 0 < n
    · have h1 : n.tmod 10 = n % 10 := Int.tmod_eq_emod_of_nonneg hn0
      have h2 : n.tdiv 10 = n / 10 := Int.tdiv_eq_ediv_of_nonneg hn0
      have h3 : 0 ≤ n % 10 := by omega
      have h4 : n % 10 < 10 := by omega
      have hcv := run_convert_bytes_arg (P := Try.prog) (wr.alloc (.cells #[.int .u8 (48 + n % 10)] 5)) 121 5 Try.underlying121 Try.underlying5 wr.heap.size 0 1 1 [48 + n % 10] rfl (fun i hi => by
        have h0 : i = 0 := by omega
        subst h0
        simp [go_sem]) 9 Try.underlying9
      obtain ⟨D, hD⟩ : ∃ D, D = strOfNums [48 + n % 10] := ⟨_, rfl⟩
      rw [← hD] at hcv
      have hD1 : D.size = 1 := by rw [hD]; rfl
      have HD := Lib.hid hD
      cases g with
      | zero => simp at hn9; omega
      | succ g =>
        have hgo2 : mtGo g (n / 10) (D ++ s) = R := by
          unfold mtGo at hgo
          rw [if_pos hp] at hgo
          rw [hD]
          exact hgo
        have HG := Lib.hid hgo2
        have hs2 : (D ++ s).size = s.size + 1 := by rw [ByteArray.size_append, hD1]; omega
        have HS := Lib.hid hs2
        have hn92 : n / 10 < 10 ^ g := by
          rw [Int.pow_succ] at hn9
          omega
        clear hgo hgo2 hD hs2 hn9
        go_wp2
        go_roundg g
        case measure => rw [HgG.out]; omega
        case rel => exact ⟨g, n / 10, D ++ s, rfl, by omega, hn92, by omega, by rw [HS.out]; omega, HG.out, bal hbw _, by go_num, rfl⟩
    · have hn : n = 0 := by omega
      have hfin : s = R := by
        cases g with
        | zero => exact hgo
        | succ g => unfold mtGo at hgo; rw [if_neg hp] at hgo; exact hgo
      have HF := Lib.hid hfin
      clear hfin hgo
      go_wp2
      go_ret
      exact ⟨ret_str (by rw [HM.out, HF.out]), hbw⟩
end Go.Proofs.Yteepcnfpdmmnhaa
