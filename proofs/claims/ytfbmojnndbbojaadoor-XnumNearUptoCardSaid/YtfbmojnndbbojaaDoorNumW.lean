/- Whole numbers around one, without Go and memory. -/
import Derived.Test.YtfbmojnndbbojaaDoorPrintf19
import Derived.Test.YtfbmojnndbbojaaDoorPrintf13
import Derived.Test.YtfbmojnndbbojaaDoorNumB
namespace Go.Proofs.YtfbmojnndbbojaaDoor.NumW
open Go.RowKit Go.Proofs.YtfbmojnndbbojaaDoorW.PrintWords Go.Proofs.YtfbmojnndbbojaaDoor.Plain Go.Proofs.YtfbmojnndbbojaaDoor.Print Go.Proofs.YtfbmojnndbbojaaDoor.NumO Go.Proofs.YtfbmojnndbbojaaDoor.NumA
theorem tmod6 (v : Int) : (0 ≤ v → Int.tmod v 1000000 = v % 1000000) ∧ (v < 0 → Int.tmod v 1000000 = -((-v) % 1000000)) := by
  refine ⟨fun h => Int.tmod_eq_emod_of_nonneg h, fun h => ?_⟩
  have e := Int.neg_tmod (-v) 1000000
  rw [Int.neg_neg, Int.tmod_eq_emod_of_nonneg (show 0 ≤ -v by omega)] at e
  exact e
theorem tdiv6 (v : Int) : (0 ≤ v → Int.tdiv v 1000000 = v / 1000000) ∧ (v < 0 → Int.tdiv v 1000000 = -((-v) / 1000000)) := by
  refine ⟨fun h => Int.tdiv_eq_ediv_of_nonneg h, fun h => ?_⟩
  have e := Int.neg_tdiv (-v) 1000000
  rw [Int.neg_neg, Int.tdiv_eq_ediv_of_nonneg (show 0 ≤ -v by omega)] at e
  exact e
/-- the greatest whole number that is not above -/
def flN (v : Int) : Int := v - v % 1000000
theorem floor_f {v : Int} (h : -2000000000000000000 ≤ v ∧ v ≤ 2000000000000000000) : xnum_Floor.f 0 v = some (0, flN v) := by
  unfold xnum_Floor.f flN
  rw [if_pos rfl]
  have t1 := tmod6 v
  generalize Int.tmod v 1000000 = t at *
  have e1 : wrap64 (t + 1000000) = t + 1000000 := by rcases Int.lt_or_le v 0 with hv | hv <;> exact w64 (by omega) (by omega)
  rw [e1]
  have t2 := (tmod6 (t + 1000000)).1 (by rcases Int.lt_or_le v 0 with hv | hv <;> omega)
  rw [t2]
  have e2 : v - (t + 1000000) % 1000000 = v - v % 1000000 := by rcases Int.lt_or_le v 0 with hv | hv <;> omega
  rw [e2, w64 (by omega) (by omega)]
theorem floor_n {a : Int} (v : Int) (h : a ≠ 0) : xnum_Floor.f a v = some (a, v) := by
  unfold xnum_Floor.f
  rw [if_neg h]
theorem ceil_f (k : Nat) {v : Int} (h : -1000000000000000000 ≤ v ∧ v ≤ 1000000000000000000) : xnum_Ceiling.f (k + 1) 0 v = some (0, -(flN (-v))) := by
  unfold xnum_Ceiling.f
  rw [neg_f k (by omega)]
  have e : negN 0 v = (0, -v) := rfl
  rw [e, Option.bind_some]
  show ((xnum_Floor.f 0 (-v)).bind fun bt => (xnum_Neg.f (k + 1) bt.1 bt.2).bind fun bt2 => some (bt2.1, bt2.2)) = _
  rw [floor_f (by omega), Option.bind_some]
  show ((xnum_Neg.f (k + 1) 0 (flN (-v))).bind fun bt2 => some (bt2.1, bt2.2)) = _
  rw [neg_f k (by unfold flN; omega)]
  rfl
theorem ceil_n (k : Nat) {a : Int} (h : a = 1 ∨ a = 2 ∨ a = 3) : xnum_Ceiling.f (k + 1) a 0 = some (a, 0) := by
  unfold xnum_Ceiling.f
  rw [neg_f k (by omega)]
  rcases h with rfl | rfl | rfl
  · have e : negN 1 0 = (1, 0) := rfl
    rw [e, Option.bind_some]
    show ((xnum_Floor.f 1 0).bind fun bt => (xnum_Neg.f (k + 1) bt.1 bt.2).bind fun bt2 => some (bt2.1, bt2.2)) = _
    rw [floor_n 0 (by decide), Option.bind_some]
    show ((xnum_Neg.f (k + 1) 1 0).bind fun bt2 => some (bt2.1, bt2.2)) = _
    rw [neg_f k (by omega)]
    rfl
  · have e : negN 2 0 = (3, 0) := rfl
    rw [e, Option.bind_some]
    show ((xnum_Floor.f 3 0).bind fun bt => (xnum_Neg.f (k + 1) bt.1 bt.2).bind fun bt2 => some (bt2.1, bt2.2)) = _
    rw [floor_n 0 (by decide), Option.bind_some]
    show ((xnum_Neg.f (k + 1) 3 0).bind fun bt2 => some (bt2.1, bt2.2)) = _
    rw [neg_f k (by omega)]
    rfl
  · have e : negN 3 0 = (2, 0) := rfl
    rw [e, Option.bind_some]
    show ((xnum_Floor.f 2 0).bind fun bt => (xnum_Neg.f (k + 1) bt.1 bt.2).bind fun bt2 => some (bt2.1, bt2.2)) = _
    rw [floor_n 0 (by decide), Option.bind_some]
    show ((xnum_Neg.f (k + 1) 2 0).bind fun bt2 => some (bt2.1, bt2.2)) = _
    rw [neg_f k (by omega)]
    rfl
theorem round_f {v : Int} (h : -1000000000000000000 ≤ v ∧ v ≤ 1000000000000000000) : xnum_Round.f 0 v = some (0, flN (v + 500000)) := by
  unfold xnum_Round.f
  rw [if_pos rfl, w64 (by omega) (by omega), floor_f (by omega)]
  rfl
theorem round_n {a : Int} (v : Int) (h : a ≠ 0) : xnum_Round.f a v = some (a, v) := by
  unfold xnum_Round.f
  rw [if_neg h, floor_n v h]
  rfl
end Go.Proofs.YtfbmojnndbbojaaDoor.NumW
