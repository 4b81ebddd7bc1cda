/- XnumRests, without Go and memory. -/
import Derived.Test.YtfbmojnndbbojaaDoorPrintf5
import Derived.Test.YtfbmojnndbbojaaDoorPrintf19
import Derived.Test.YtfbmojnndbbojaaDoorPrintf27
import Derived.Test.YtfbmojnndbbojaaDoorNumA
import Derived.Test.YtfbmojnndbbojaaDoorNumLive
namespace Go.Proofs.YtfbmojnndbbojaaDoor.Pure
open Go.RowKit Go.Proofs.YtfbmojnndbbojaaDoorW.PrintWords Go.Proofs.YtfbmojnndbbojaaDoor.Plain Go.Proofs.YtfbmojnndbbojaaDoor.Print Go.Proofs.YtfbmojnndbbojaaDoor.NumO Go.Proofs.YtfbmojnndbbojaaDoor.NumA Go.Proofs.YtfbmojnndbbojaaDoor.NumLive
theorem rest_facts {v w : Int} (hw : w ≠ 0) : (Int.tmod v w).natAbs < w.natAbs ∧ (0 ≤ v → 0 ≤ Int.tmod v w) ∧ (v ≤ 0 → Int.tmod v w ≤ 0) ∧ Int.tmod (v - Int.tmod v w) w = 0 ∧ (Int.tmod v w).natAbs ≤ v.natAbs := by
  have e : v - Int.tmod v w = w * Int.tdiv v w := by have := Int.mul_tdiv_add_tmod v w; omega
  have e2 : (Int.tmod v w).natAbs = v.natAbs % w.natAbs := Int.natAbs_tmod v w
  refine ⟨?_, ?_, ?_, ?_, ?_⟩
  · rw [e2]; exact Nat.mod_lt _ (by omega)
  · exact fun h => Int.tmod_nonneg w h
  · intro h
    have := Int.tmod_nonneg w (show 0 ≤ -v by omega)
    rw [Int.neg_tmod] at this
    omega
  · rw [e, Int.mul_tmod_right]
  · rw [e2]; exact Nat.mod_le _ _
theorem XnumRests (a v b w : Int) (_ : (Lit.int .i64 a).wf = true) (_ : (Lit.int .i64 v).wf = true) (_ : (Lit.int .i64 b).wf = true) (_ : (Lit.int .i64 w).wf = true) :
    ∃ k, stencillaw02_XnumRests.f k a v b w = some true := by
  refine ⟨66, ?_⟩
  have lv : stencillaw02_live.f 64 = some true := live_f
  have lv' : stencillaw02_live.f 65 = some true := live_65
  have J : ∀ a v b w, stencillaw02_XnumRests.j0 66 true a v b w = some true := by
    intro a v b w
    simp only [stencillaw02_XnumRests.j0, if_true, lv', Option.bind_some]
  unfold stencillaw02_XnumRests.f
  rw [right_f]
  simp only [Option.bind_some, J]
  by_cases h : RightP a v ∧ RightP b w
  · have hv := right_v h.1
    have hw := right_v h.2
    rw [if_pos (by simpa using h)]
    by_cases ha : a = 0
    · by_cases hb : b = 0
      · subst ha hb
        rw [if_pos rfl, if_pos rfl]
        by_cases w0 : w = 0
        · subst w0; exact J _ _ _ _
        · have hb : (w == 0) = false := by simpa using w0
          obtain ⟨r1, r2, r3, r4, r5⟩ := rest_facts (v := v) w0
          have M : xnum_Mod.f 65 0 v 0 w = some (0, Int.tmod v w) := by
            unfold xnum_Mod.f
            simp only [if_true, hb, xnum_Mod.j0, w0, if_false, Bool.false_eq_true]
            rfl
          generalize Int.tmod v w = r at *
          have S : xnum_Sub.f 65 0 v 0 r = some (0, v - r) := by
            rw [sub_f 63 (by omega) (by omega)]
            have e : negN 0 r = (0, -r) := rfl
            rw [e, addN_0 (by omega) (by omega)]
            rfl
          have K : stencillaw02_XnumRests.j1 65 false 0 w 0 r = some true := by
            have n1 : wrap64 (-r) = -r := w64 (by omega) (by omega)
            have n2 : wrap64 (-w) = -w := w64 (by omega) (by omega)
            simp only [stencillaw02_XnumRests.j1, Bool.false_eq_true, if_false, lv, Option.bind_some, if_true, n1, n2]
            split
            · split
              · simp; omega
              · simp; omega
            · split
              · simp; omega
              · simp; omega
          rw [hb]
          simp only [stencillaw02_XnumRests.j0, Bool.false_eq_true, if_false, M, Option.bind_some, if_true, S, w0, r4, bne_self_eq_false, K]
          split
          · rfl
          · rename_i r0
            have e : (decide (r < 0)) = (decide (v < 0)) := by
              by_cases hv0 : v < 0
              · rw [decide_eq_true hv0, decide_eq_true (by omega)]
              · rw [decide_eq_false hv0, decide_eq_false (by omega)]
            rw [e]
            simp
      · simp [ha, hb]
    · simp [ha]
  · simp [h]
end Go.Proofs.YtfbmojnndbbojaaDoor.Pure
