/- XnumOrders, without Go and memory. -/
import Derived.Test.YtfbmojnndbbojaaGreatDoorPrintf44
import Derived.Test.YtfbmojnndbbojaaGreatDoorPrintf25
import Derived.Test.YtfbmojnndbbojaaGreatDoorPrintf43
import Derived.Test.YtfbmojnndbbojaaGreatDoorNumO
import Derived.Test.YtfbmojnndbbojaaGreatDoorNumLive
namespace Go.Proofs.YtfbmojnndbbojaaGreatDoor.Pure
open Go.RowKit Go.Proofs.YtfbmojnndbbojaaGreatDoorW.PrintWords Go.Proofs.YtfbmojnndbbojaaGreatDoor.Plain Go.Proofs.YtfbmojnndbbojaaGreatDoor.Print Go.Proofs.YtfbmojnndbbojaaGreatDoor.NumO Go.Proofs.YtfbmojnndbbojaaGreatDoor.NumLive
theorem rank_f {a v : Int} (h : RightP a v) : stencilref02_rank.f a v = some (placeN a) := by
  unfold RightP at h
  rcases h with ⟨rfl, _⟩ | ⟨rfl | rfl | rfl, _⟩ <;> rfl
theorem compare_f (k : Nat) (a v b w : Int) : xnum_Compare.f (k + 3) a v b w = some (if a = 1 ∨ b = 1 then (0, false) else (ordN a v b w, true)) := by
  unfold xnum_Compare.f
  by_cases h : a = 1
  · simp [h]
  · by_cases h2 : b = 1
    · simp [h, h2]
    · rw [order_f]; simp [h, h2]
theorem refCompare_f (k : Nat) {a v b w : Int} (h : RightP a v) (h2 : RightP b w) : stencilref02_Compare.f (k + 1) a v b w = some (if a = 1 ∨ b = 1 then (0, false) else (ordN a v b w, true)) := by
  unfold stencilref02_Compare.f
  simp only [stencilref02_Compare.j0, rank_f h, rank_f h2, Option.bind_some]
  by_cases ha : a = 1
  · simp [ha]
  · by_cases hb : b = 1
    · simp [ha, hb]
    · simp only [ha, hb, if_false, or_self, beq_iff_eq]
      unfold ordN cmpN
      by_cases e : placeN a = placeN b
      · have e1 : ¬ placeN a < placeN b := by omega
        have e2 : ¬ placeN a > placeN b := by omega
        simp only [e, if_true, Int.lt_irrefl, gt_iff_lt, if_false]
        split
        · rfl
        · split <;> rfl
      · by_cases e1 : placeN a < placeN b
        · simp [e, e1]
        · have e2 : placeN a > placeN b := by omega
          simp [e, e1, e2]
theorem refLess_f {a v b w : Int} (h : RightP a v) (h2 : RightP b w) : stencilref02_Less.f a v b w = some (decide (LessP a v b w)) := by
  unfold stencilref02_Less.f
  rw [rank_f h, rank_f h2]
  simp only [Option.bind_some]
  by_cases e : placeN a = placeN b
  · rw [if_pos e]
    by_cases e2 : placeN a = 2
    · rw [if_pos e2]
      exact congrArg some (decide_eq_decide.2 (by unfold LessP; omega))
    · rw [if_neg e2]
      have hv : v = 0 := by
        unfold RightP at h
        rcases h with ⟨rfl, _⟩ | ⟨_, h⟩
        · exact absurd rfl e2
        · exact h
      have hw : w = 0 := by
        unfold RightP at h2
        rcases h2 with ⟨rfl, _⟩ | ⟨_, h2⟩
        · exact absurd e e2
        · exact h2
      exact congrArg some (decide_eq_false (by unfold LessP; omega)).symm
  · rw [if_neg e]
    exact congrArg some (decide_eq_decide.2 (by unfold LessP; omega))
theorem XnumOrders (a v b w : Int) (_ : (Lit.int .i64 a).wf = true) (_ : (Lit.int .i64 v).wf = true) (_ : (Lit.int .i64 b).wf = true) (_ : (Lit.int .i64 w).wf = true) :
    ∃ k, stencillaw02_XnumOrders.f k a v b w = some true := by
  refine ⟨64, ?_⟩
  have lf : ∀ a v b w, xnum_Less.f 64 a v b w = some (decide (LessP a v b w)) := less_f 61
  have cf : ∀ a v b w, xnum_Compare.f 64 a v b w = some (if a = 1 ∨ b = 1 then (0, false) else (ordN a v b w, true)) := compare_f 61
  have lv : stencillaw02_live.f 64 = some true := live_f
  unfold stencillaw02_XnumOrders.f
  rw [right_f, lv, cf, lf]
  simp only [Option.bind_some]
  by_cases h1 : RightP a v ∧ RightP b w
  · have rc : stencilref02_Compare.f 64 a v b w = some (if a = 1 ∨ b = 1 then (0, false) else (ordN a v b w, true)) := refCompare_f 63 h1.1 h1.2
    rw [rc, refLess_f h1.1 h1.2]
    simp [h1]
  · simp [h1]
end Go.Proofs.YtfbmojnndbbojaaGreatDoor.Pure
