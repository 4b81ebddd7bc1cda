/- Comparison of two, and the number of the other sign, without Go and memory. -/
import Derived.Test.YthedigbdkjcpfaaGreatDoorPrintf38
import Derived.Test.YthedigbdkjcpfaaGreatDoorPrintf36
import Derived.Test.YthedigbdkjcpfaaGreatDoorNumB
namespace Go.Proofs.YthedigbdkjcpfaaGreatDoor.NumA
open Go.RowKit Go.Proofs.YthedigbdkjcpfaaGreatDoorW.PrintWords Go.Proofs.YthedigbdkjcpfaaGreatDoor.Plain Go.Proofs.YthedigbdkjcpfaaGreatDoor.Print Go.Proofs.YthedigbdkjcpfaaGreatDoor.NumO
theorem cmp64_f (a b : Int) : cmp_Compare_int64.f a b = some (cmpN a b) := by
  unfold cmp_Compare_int64.f cmp_isNaN_int64.f cmpN
  simp
  split
  · rfl
  · split <;> rfl
def negN (a v : Int) : Int × Int := if a = 0 then (0, -v) else if a = 2 then (3, 0) else if a = 3 then (2, 0) else (1, 0)
theorem neg_f (k : Nat) {a v : Int} (hv : -2000000000000000000 ≤ v ∧ v ≤ 2000000000000000000) : xnum_Neg.f (k + 1) a v = some (negN a v) := by
  have e : wrap64 (-v) = -v := w64 (by omega) (by omega)
  unfold xnum_Neg.f negN
  simp only [xnum_Neg.j0, e, xnum_inf.f, xnum_nan.f]
  by_cases a0 : a = 0
  · simp [a0]
  · by_cases a2 : a = 2
    · simp [a2]
    · by_cases a3 : a = 3
      · simp [a3]
      · simp [a0, a2, a3]
end Go.Proofs.YthedigbdkjcpfaaGreatDoor.NumA
