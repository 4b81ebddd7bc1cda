/- XnumChains, without Go and memory. -/
import Derived.Test.YtfbmojnndbbojaaGreatDoorPrintf6
import Derived.Test.YtfbmojnndbbojaaGreatDoorPrintf25
import Derived.Test.YtfbmojnndbbojaaGreatDoorNumO
import Derived.Test.YtfbmojnndbbojaaGreatDoorNumLive
namespace Go.Proofs.YtfbmojnndbbojaaGreatDoor.Pure
open Go.RowKit Go.Proofs.YtfbmojnndbbojaaGreatDoorW.PrintWords Go.Proofs.YtfbmojnndbbojaaGreatDoor.Plain Go.Proofs.YtfbmojnndbbojaaGreatDoor.Print Go.Proofs.YtfbmojnndbbojaaGreatDoor.NumO Go.Proofs.YtfbmojnndbbojaaGreatDoor.NumLive
theorem XnumChains (a v b w c u : Int) (_ : (Lit.int .i64 a).wf = true) (_ : (Lit.int .i64 v).wf = true) (_ : (Lit.int .i64 b).wf = true) (_ : (Lit.int .i64 w).wf = true) (_ : (Lit.int .i64 c).wf = true) (_ : (Lit.int .i64 u).wf = true) :
    ∃ k, stencillaw02_XnumChains.f k a v b w c u = some true := by
  refine ⟨liveK + 1, ?_⟩
  have lf : ∀ a v b w, xnum_Less.f 64 a v b w = some (decide (LessP a v b w)) := less_f 61
  have lv : stencillaw02_live.f 64 = some true := live_f
  unfold stencillaw02_XnumChains.f
  rw [right_f, Right_f]
  simp only [Option.bind_some, stencillaw02_XnumChains.j0, lv, lf]
  by_cases h1 : RightP a v ∧ RightP b w
  · by_cases h2 : RightP c u
    · have pi := place_inj h1.1 h1.2
      by_cases l1 : LessP a v b w
      · have l2 : ¬ LessP b w a v := by unfold LessP at *; omega
        by_cases l3 : LessP b w c u
        · have l4 : LessP a v c u := by unfold LessP at *; omega
          simp [h1, h2, l1, l2, l3, l4]
        · simp [h1, h2, l1, l2, l3]
      · by_cases l2 : LessP b w a v
        · simp [h1, h2, l1, l2]
        · have e : placeN a = placeN b := by unfold LessP at *; omega
          have e2 : v = w := by unfold LessP at *; omega
          have e3 := pi e
          subst e2 e3
          simp [h1, h2, l1]
    · simp [h1, h2]
  · simp [h1]
end Go.Proofs.YtfbmojnndbbojaaGreatDoor.Pure
