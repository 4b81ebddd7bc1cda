/- XnumTurns, without Go and memory. -/
import Derived.Test.YtfbmojnndbbojaaDoorPrintf4
import Derived.Test.YtfbmojnndbbojaaDoorPrintf19
import Derived.Test.YtfbmojnndbbojaaDoorPrintf27
import Derived.Test.YtfbmojnndbbojaaDoorNumA
import Derived.Test.YtfbmojnndbbojaaDoorNumLive
namespace Go.Proofs.YtfbmojnndbbojaaDoor.Pure
open Go.RowKit Go.Proofs.YtfbmojnndbbojaaDoorW.PrintWords Go.Proofs.YtfbmojnndbbojaaDoor.Plain Go.Proofs.YtfbmojnndbbojaaDoor.Print Go.Proofs.YtfbmojnndbbojaaDoor.NumO Go.Proofs.YtfbmojnndbbojaaDoor.NumA Go.Proofs.YtfbmojnndbbojaaDoor.NumLive
theorem XnumTurns (a v b w : Int) (_ : (Lit.int .i64 a).wf = true) (_ : (Lit.int .i64 v).wf = true) (_ : (Lit.int .i64 b).wf = true) (_ : (Lit.int .i64 w).wf = true) :
    ∃ k, stencillaw02_XnumTurns.f k a v b w = some true := by
  refine ⟨66, ?_⟩
  have lv : stencillaw02_live.f 64 = some true := live_f
  have lv' : stencillaw02_live.f 66 = some true := live_66
  unfold stencillaw02_XnumTurns.f
  rw [right_f]
  simp only [Option.bind_some, lv']
  by_cases h : RightP a v ∧ RightP b w
  · have hv := right_v h.1
    have hw := right_v h.2
    rw [if_pos (by simpa using h), add_f 64 (by omega) (by omega), add_f 64 (by omega) (by omega)]
    simp only [Option.bind_some]
    rw [addN_comm h.2 h.1, mul_f 64 (by omega) (by omega), mul_f 64 (by omega) (by omega), mulN_comm b w a v]
    simp only [beq_self_eq_true, Bool.not_true, Bool.or_self, Bool.false_eq_true, if_false, Option.bind_some, stencillaw02_XnumTurns.j0]
    by_cases ha : a = 0
    · by_cases hb : b = 0
      · subst ha hb
        simp only [if_true, stencillaw02_XnumTurns.j1, lv, Option.bind_some]
        by_cases hs : (addN 0 v 0 w).1 = 0
        · obtain ⟨hs1, hs2⟩ := addN_fin hs
          have s1 : xnum_Sub.f 64 0 (v + w) 0 w = some (0, v) := by
            have e2 : negN 0 w = (0, -w) := rfl
            rw [sub_f 62 (by omega) (by omega), e2, addN_0 (by omega) (by omega)]
            simp only [Option.some.injEq, Prod.mk.injEq, true_and]
            omega
          have n1 : xnum_Neg.f 64 0 v = some (0, -v) := neg_f 63 (by omega)
          have n2 : xnum_Neg.f 64 0 (-v) = some (0, v) := by
            rw [neg_f 63 (by omega)]
            unfold negN
            rw [if_pos rfl, Int.neg_neg]
          have a1 : xnum_Add.f 64 0 v 0 (-v) = some (0, 0) := by
            rw [add_f 62 (by omega) (by omega), addN_0 (by omega) (by omega)]
            simp only [Option.some.injEq, Prod.mk.injEq, true_and]
            omega
          have e6 : xnum_Int.f 0 = some (0, 0) := by kernel_rfl
          simp [hs1, s1, n1, n2, a1, e6]
        · rw [if_pos (by simpa using hs)]
      · simp [ha, hb, stencillaw02_XnumTurns.j1, lv]
    · simp [ha, stencillaw02_XnumTurns.j1, lv]
  · rw [if_neg (by simpa using h)]
end Go.Proofs.YtfbmojnndbbojaaDoor.Pure
