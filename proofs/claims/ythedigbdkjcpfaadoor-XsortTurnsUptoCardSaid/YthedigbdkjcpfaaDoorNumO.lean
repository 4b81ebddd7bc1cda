/- How numbers are ordered, without Go and memory. -/
import Derived.Test.YthedigbdkjcpfaaDoorPrintf87
import Derived.Test.YthedigbdkjcpfaaDoorPrintxnumplace
import Derived.Test.YthedigbdkjcpfaaDoorNumR
namespace Go.Proofs.YthedigbdkjcpfaaDoor.NumO
open Go.RowKit Go.Proofs.YthedigbdkjcpfaaDoorW.PrintWords Go.Proofs.YthedigbdkjcpfaaDoor.Plain Go.Proofs.YthedigbdkjcpfaaDoor.Print
def ordN (a v b w : Int) : Int := if cmpN (placeN a) (placeN b) = 0 then cmpN v w else cmpN (placeN a) (placeN b)
theorem cmp_f (a b : Int) : cmp_Compare_int.f a b = some (cmpN a b) := by
  unfold cmp_Compare_int.f cmp_isNaN_int.f cmpN
  simp
  split
  · rfl
  · split <;> rfl
theorem or_f (k : Nat) (x y : Int) : cmp_Or_int.f (k + 3) [x, y] = some (if x = 0 then y else x) := by
  have w1 : wrap64 (0 + 1) = 1 := by kernel_rfl
  have w2 : wrap64 (1 + 1) = 2 := by kernel_rfl
  have r0 : rd [x, y] 0 = x := rfl
  have r1 : rd [x, y] 1 = y := rfl
  unfold cmp_Or_int.f
  simp only [cmp_Or_int.l0, List.length_cons, List.length_nil, w1, w2, r0, r1]
  by_cases hx : x = 0
  · by_cases hy : y = 0
    · simp [hx, hy]
    · simp [hx, hy]
  · simp [hx]
theorem order_f (k : Nat) (a v b w : Int) : xnum_order.f (k + 3) a v b w = some (ordN a v b w) := by
  unfold xnum_order.f xnum_place.f
  simp only [Option.bind_some]
  rw [cmp_f, cmp64_f]
  simp only [Option.bind_some]
  rw [or_f]
  rfl
def LessP (a v b w : Int) : Prop := placeN a < placeN b ∨ (placeN a = placeN b ∧ v < w)
instance (a v b w : Int) : Decidable (LessP a v b w) := by unfold LessP; infer_instance
theorem ordN_lt (a v b w : Int) : ordN a v b w < 0 ↔ LessP a v b w := by
  unfold ordN LessP cmpN
  split <;> split <;> (try split) <;> omega
theorem ordN_gt (a v b w : Int) : ordN a v b w > 0 ↔ LessP b w a v := by
  unfold ordN LessP cmpN
  split <;> split <;> (try split) <;> omega
theorem less_f (k : Nat) (a v b w : Int) : xnum_Less.f (k + 3) a v b w = some (decide (LessP a v b w)) := by
  unfold xnum_Less.f
  rw [order_f]
  simp only [Option.bind_some]
  congr 1
  rw [decide_eq_decide]
  exact ordN_lt a v b w
/-- of right numbers the places tell the kinds -/
theorem place_inj {a v b w : Int} (h : RightP a v) (h2 : RightP b w) (e : placeN a = placeN b) : a = b := by
  unfold RightP at h h2
  unfold placeN at e
  revert e
  repeat' split
  all_goals omega
end Go.Proofs.YthedigbdkjcpfaaDoor.NumO
