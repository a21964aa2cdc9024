/-
  FPressesC: the code of keys and a text: spec.l02Code.
-/
import Derived.Test.YteigdlgijdmfkaaFPressesM
namespace Go.Proofs.Yteigdlgijdmfkaa
open Go.RowKit
set_option linter.unusedVariables false
attribute [local go_sem ↓] Go.wp_at_zero Go.wp_at_succ
set_option linter.unusedSimpArgs false
noncomputable def codeV (ks : List TKey) (az : List TAccent) (text : ByteArray) : Int := if KeysOk ks az then (if TextOk text 33 100 then 0 else 2) else 1
set_option maxHeartbeats 1600000 in
theorem l02Code_any (A : Option Addr) (c : Nat) (ks : List TKey) (hx : ks.length ≤ 1048576) (hk : ∀ x ∈ ks, KKey x) (hcap : ks.length ≤ c) (B : Option Addr) (d : Nat) (az : List TAccent) (hy : az.length ≤ 1048576) (hm : ∀ x ∈ az, KAccent x) (text : ByteArray) (hs : text.size ≤ 1048576) (w : World) (rx : Row w A encKey 3 ks) (ry : Row w B encAccent 3 az) :
    Calls Try.prog 59 #[.slice A ks.length c, .slice B az.length d, .string text] w (RI1 (codeV ks az text) w) := by
  rcases ff2 (KeysOk ks az) (TextOk text 33 100) with h | ⟨h, h2⟩ | ⟨h, h2⟩
  · have HM := Lib.hid (show codeV ks az text = 1 by unfold codeV; rw [if_neg h])
    go_enter Try.func59, Try.ntmps59
    go_wp2_with (go_at_call 47; refine (RBb.no (l02Ok_any A c ks hx hk hcap B d az hy hm _ rx ry) h).mono ?_; rintro e w1 ⟨rfl, hb1⟩)
    go_ret
    exact RI1.mk HM.out.symm hb1
  · have HM := Lib.hid (show codeV ks az text = 2 by unfold codeV; rw [if_pos h, if_neg h2])
    go_enter Try.func59, Try.ntmps59
    go_wp2_with (first | (go_at_call 47; refine (RBb.yes (l02Ok_any A c ks hx hk hcap B d az hy hm _ rx ry) h).mono ?_; rintro e w1 ⟨rfl, hb1⟩) | (go_at_call 86; refine (RB.no (l02Text_any text hs _) h2).mono ?_; rintro e w2 ⟨rfl, rfl⟩))
    go_ret
    exact RI1.mk HM.out.symm hb1
  · have HM := Lib.hid (show codeV ks az text = 0 by unfold codeV; rw [if_pos h, if_pos h2])
    go_enter Try.func59, Try.ntmps59
    go_wp2_with (first | (go_at_call 47; refine (RBb.yes (l02Ok_any A c ks hx hk hcap B d az hy hm _ rx ry) h).mono ?_; rintro e w1 ⟨rfl, hb1⟩) | (go_at_call 86; refine (RB.yes (l02Text_any text hs _) h2).mono ?_; rintro e w2 ⟨rfl, rfl⟩))
    go_ret
    exact RI1.mk HM.out.symm hb1
end Go.Proofs.Yteigdlgijdmfkaa
