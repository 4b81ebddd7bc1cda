/- XnumBack, without Go and memory. -/
import Derived.Test.YtfbmojnndbbojaaGreatDoorPrintf23
import Derived.Test.YtfbmojnndbbojaaGreatDoorPrintf50
import Derived.Test.YtfbmojnndbbojaaGreatDoorPrintxnumparse
import Derived.Test.YtfbmojnndbbojaaGreatDoorNumT
import Derived.Test.YtfbmojnndbbojaaGreatDoorNumLive
namespace Go.Proofs.YtfbmojnndbbojaaGreatDoor.Pure
open Go.RowKit Go.Proofs.YtfbmojnndbbojaaGreatDoorW.PrintWords Go.Proofs.YtfbmojnndbbojaaGreatDoor.Plain Go.Proofs.YtfbmojnndbbojaaGreatDoor.Print Go.Proofs.YtfbmojnndbbojaaGreatDoor.NumO Go.Proofs.YtfbmojnndbbojaaGreatDoor.NumA Go.Proofs.YtfbmojnndbbojaaGreatDoor.NumT Go.Proofs.YtfbmojnndbbojaaGreatDoor.NumLive
theorem back_1 : xnum_Text.f 1 0 = some (⟨#[78, 97, 78]⟩ : ByteArray) ∧ xnum_Parse.f (⟨#[78, 97, 78]⟩ : ByteArray) = some (1, 0) := ⟨by kernel_rfl, by kernel_rfl⟩
theorem back_2 : xnum_Text.f 2 0 = some (⟨#[73, 110, 102, 105, 110, 105, 116, 121]⟩ : ByteArray) ∧ xnum_Parse.f (⟨#[73, 110, 102, 105, 110, 105, 116, 121]⟩ : ByteArray) = some (1, 0) := ⟨by kernel_rfl, by kernel_rfl⟩
theorem back_3 : xnum_Text.f 3 0 = some (⟨#[45, 73, 110, 102, 105, 110, 105, 116, 121]⟩ : ByteArray) ∧ xnum_Parse.f (⟨#[45, 73, 110, 102, 105, 110, 105, 116, 121]⟩ : ByteArray) = some (1, 0) := ⟨by kernel_rfl, by kernel_rfl⟩
theorem XnumBack (a v : Int) (_ : (Lit.int .i64 a).wf = true) (_ : (Lit.int .i64 v).wf = true) :
    ∃ k, stencillaw02_XnumBack.f k a v = some true := by
  refine ⟨64, ?_⟩
  have lv : stencillaw02_live.f 64 = some true := live_f
  unfold stencillaw02_XnumBack.f
  rw [Right_f, obind, lv]
  by_cases h : RightP a v
  · rw [if_pos (decide_eq_true h)]
    have hv := right_v h
    by_cases ha : a = 0
    · subst ha
      rw [text_f hv, obind, parse_text hv, obind, if_pos rfl, obind, if_pos rfl]
      simp
    · have hv0 := right_0 h ha
      subst hv0
      have ha2 : a = 1 ∨ a = 2 ∨ a = 3 := by have := right_a h; omega
      rcases ha2 with rfl | rfl | rfl
      · rw [back_1.1, obind, back_1.2, obind]
        simp
      · rw [back_2.1, obind, back_2.2, obind]
        simp
      · rw [back_3.1, obind, back_3.2, obind]
        simp
  · rw [if_neg (by simpa using h), obind]
end Go.Proofs.YtfbmojnndbbojaaGreatDoor.Pure
