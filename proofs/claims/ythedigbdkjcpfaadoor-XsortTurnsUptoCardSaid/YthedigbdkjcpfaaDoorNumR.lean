/- Right numbers, without Go and memory (where no test of them is reached). -/
import Derived.Test.YthedigbdkjcpfaaDoorPrintf87
import Derived.Lib.ItoaNum
namespace Go.Proofs.YthedigbdkjcpfaaDoor.NumO
open Go.RowKit Go.Proofs.YthedigbdkjcpfaaDoorW.PrintWords Go.Proofs.YthedigbdkjcpfaaDoor.Plain Go.Proofs.YthedigbdkjcpfaaDoor.Print
def cmpN (a b : Int) : Int := if a < b then -1 else if a > b then 1 else 0
def RightP (a v : Int) : Prop := (a = 0 ∧ -1000000000000000000 ≤ v ∧ v ≤ 1000000000000000000) ∨ ((a = 1 ∨ a = 2 ∨ a = 3) ∧ v = 0)
instance (a v : Int) : Decidable (RightP a v) := by unfold RightP; infer_instance
theorem cmp64_f (a b : Int) : cmp_Compare_int64.f a b = some (cmpN a b) := by
  unfold cmp_Compare_int64.f cmp_isNaN_int64.f cmpN
  simp
  split
  · rfl
  · split <;> rfl
end Go.Proofs.YthedigbdkjcpfaaDoor.NumO
