/- Both right, without Go and memory. -/
import Derived.Test.YtfbmojnndbbojaaGreatDoorPrintf33
import Derived.Test.YtfbmojnndbbojaaGreatDoorNumR
namespace Go.Proofs.YtfbmojnndbbojaaGreatDoor.NumO
open Go.RowKit Go.Proofs.YtfbmojnndbbojaaGreatDoorW.PrintWords Go.Proofs.YtfbmojnndbbojaaGreatDoor.Plain Go.Proofs.YtfbmojnndbbojaaGreatDoor.Print
theorem right_f (a v b w : Int) : stencillaw02_right.f a v b w = some (decide (RightP a v ∧ RightP b w)) := by
  unfold stencillaw02_right.f
  rw [Right_f, Right_f]
  simp only [Option.bind_some]
  by_cases h : RightP a v <;> by_cases h2 : RightP b w <;> simp [h, h2]
end Go.Proofs.YtfbmojnndbbojaaGreatDoor.NumO
