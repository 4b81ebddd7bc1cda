/- Words for numbers, and the number of the other sign, without Go and memory. -/
import Derived.Test.YtfbmojnndbbojaaGreatDoorPrintf21
import Derived.Test.YtfbmojnndbbojaaGreatDoorNumR
namespace Go.Proofs.YtfbmojnndbbojaaGreatDoor.NumA
open Go.RowKit Go.Proofs.YtfbmojnndbbojaaGreatDoorW.PrintWords Go.Proofs.YtfbmojnndbbojaaGreatDoor.Plain Go.Proofs.YtfbmojnndbbojaaGreatDoor.Print Go.Proofs.YtfbmojnndbbojaaGreatDoor.NumO
/-- as Option.bind_some, but no step that the kernel takes by unfolding -/
theorem obind {α β : Type} (x : α) (f : α → Option β) : (some x).bind f = f x := by rw [Option.bind_some]
theorem w64 {x : Int} (h : -9223372036854775808 ≤ x) (h2 : x < 9223372036854775808) : wrap64 x = x := by unfold wrap64; omega
theorem wu (x : Int) : IntKind.u64.wrap x = x % 18446744073709551616 := IntKind.wrap_u64 x
theorem right_v {a v : Int} (h : RightP a v) : -1000000000000000000 ≤ v ∧ v ≤ 1000000000000000000 := by unfold RightP at h; omega
theorem right_a {a v : Int} (h : RightP a v) : a = 0 ∨ a = 1 ∨ a = 2 ∨ a = 3 := by unfold RightP at h; omega
theorem right_0 {a v : Int} (h : RightP a v) (ha : a ≠ 0) : v = 0 := by unfold RightP at h; omega
def negN (a v : Int) : Int × Int := if a = 0 then (0, -v) else if a = 2 then (3, 0) else if a = 3 then (2, 0) else (1, 0)
theorem neg_f (k : Nat) {a v : Int} (hv : -2000000000000000000 ≤ v ∧ v ≤ 2000000000000000000) : xnum_Neg.f (k + 1) a v = some (negN a v) := by
  have e : wrap64 (-v) = -v := w64 (by omega) (by omega)
  unfold xnum_Neg.f negN
  simp only [xnum_Neg.j0, e, xnum_inf.f, xnum_nan.f]
  by_cases a0 : a = 0
  · simp [a0]
  · by_cases a2 : a = 2
    · simp [a2]
    · by_cases a3 : a = 3
      · simp [a3]
      · simp [a0, a2, a3]
end Go.Proofs.YtfbmojnndbbojaaGreatDoor.NumA
