/- XnumNear, without Go and memory. -/
import Derived.Test.YtfbmojnndbbojaaDoorPrintf3
import Derived.Test.YtfbmojnndbbojaaDoorPrintf19
import Derived.Test.YtfbmojnndbbojaaDoorPrintf6
import Derived.Test.YtfbmojnndbbojaaDoorNumW
import Derived.Test.YtfbmojnndbbojaaDoorNumLive
namespace Go.Proofs.YtfbmojnndbbojaaDoor.Pure
open Go.RowKit Go.Proofs.YtfbmojnndbbojaaDoorW.PrintWords Go.Proofs.YtfbmojnndbbojaaDoor.Plain Go.Proofs.YtfbmojnndbbojaaDoor.Print Go.Proofs.YtfbmojnndbbojaaDoor.NumO Go.Proofs.YtfbmojnndbbojaaDoor.NumA Go.Proofs.YtfbmojnndbbojaaDoor.NumW Go.Proofs.YtfbmojnndbbojaaDoor.NumLive
theorem near_facts (v : Int) : flN v ≤ v ∧ v ≤ -(flN (-v)) ∧ Int.tmod (flN v) 1000000 = 0 ∧ ((flN v = v ∧ -(flN (-v)) = v ∧ flN (v + 500000) = v) ∨ (-(flN (-v)) = flN v + 1000000 ∧ flN (v + 500000) = flN v ∧ v - flN v < 500000) ∨ (-(flN (-v)) = flN v + 1000000 ∧ flN (v + 500000) = flN v + 1000000 ∧ 500000 ≤ v - flN v)) := by
  refine ⟨by unfold flN; omega, by unfold flN; omega, ?_, ?_⟩
  · have t := tmod6 (flN v)
    unfold flN at *
    rcases Int.lt_or_le (v - v % 1000000) 0 with h | h <;> omega
  · unfold flN
    omega
theorem XnumNear (a v : Int) (_ : (Lit.int .i64 a).wf = true) (_ : (Lit.int .i64 v).wf = true) :
    ∃ k, stencillaw02_XnumNear.f k a v = some true := by
  refine ⟨66, ?_⟩
  have lv : stencillaw02_live.f 65 = some true := live_65
  have J : ∀ a v, stencillaw02_XnumNear.j0 66 true a v = some true := by
    intro a v
    simp only [stencillaw02_XnumNear.j0, if_true, lv, Option.bind_some]
  unfold stencillaw02_XnumNear.f
  rw [Right_f]
  simp only [Option.bind_some, J]
  by_cases h : RightP a v
  · rw [if_pos (decide_eq_true h)]
    by_cases ha : a = 0
    · subst ha
      have hv := right_v h
      have e0 : ((0 : Int) != 0) = false := rfl
      rw [e0]
      have hb : -2000000000000000000 ≤ flN v ∧ flN v ≤ 2000000000000000000 := by unfold flN; omega
      obtain ⟨h1, h2, h3, h4⟩ := near_facts v
      simp only [stencillaw02_XnumNear.j0, Bool.false_eq_true, if_false, floor_f (show -2000000000000000000 ≤ v ∧ v ≤ 2000000000000000000 by omega), ceil_f 64 hv, round_f hv, lv, Option.bind_some, if_true]
      generalize flN v = F at *
      generalize -(flN (-v)) = C at *
      generalize flN (v + 500000) = R at *
      have e1 : wrap64 (C - F) = C - F := w64 (by omega) (by omega)
      have e2 : wrap64 (v - F) = v - F := w64 (by omega) (by omega)
      rw [if_pos h1, if_pos h2, if_pos h3, e1, e2]
      rcases h4 with ⟨q1, q2, q3⟩ | ⟨q1, q2, q3⟩ | ⟨q1, q2, q3⟩
      · subst q1 q2 q3
        simp
      · subst q2
        rw [if_neg (by omega), if_pos (by omega), if_pos (by simp), if_pos q3]
      · rw [if_neg (by omega), if_pos (by omega), if_neg (by simp; omega), if_pos (by simp; omega)]
        simp
        omega
    · have e0 : (a != 0) = true := by simpa using ha
      rw [e0]
      exact J _ _
  · rw [if_neg (by simpa using h)]
end Go.Proofs.YtfbmojnndbbojaaDoor.Pure
