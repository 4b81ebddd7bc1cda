/- Right numbers (the program's own test), without Go and memory. -/
import Derived.Test.YthedigbdkjcpfaaGreatDoorPrintf5
import Derived.Lib.ItoaNum
namespace Go.Proofs.YthedigbdkjcpfaaGreatDoor.NumO
open Go.RowKit Go.Proofs.YthedigbdkjcpfaaGreatDoorW.PrintWords Go.Proofs.YthedigbdkjcpfaaGreatDoor.Plain Go.Proofs.YthedigbdkjcpfaaGreatDoor.Print
def cmpN (a b : Int) : Int := if a < b then -1 else if a > b then 1 else 0
def RightP (a v : Int) : Prop := (a = 0 ∧ -1000000000000000000 ≤ v ∧ v ≤ 1000000000000000000) ∨ ((a = 1 ∨ a = 2 ∨ a = 3) ∧ v = 0)
instance (a v : Int) : Decidable (RightP a v) := by unfold RightP; infer_instance
theorem Right_p (a v : Int) : xnum_Right.f a v = some (decide (RightP a v)) := by
  unfold xnum_Right.f RightP
  by_cases h0 : a = 0
  · subst h0
    rw [if_pos rfl]
    by_cases h1 : v ≥ -1000000000000000000
    · rw [if_pos h1]; congr 1; exact Bool.eq_iff_iff.2 ⟨fun h => decide_eq_true (by have := of_decide_eq_true h; omega), fun h => decide_eq_true (by have := of_decide_eq_true h; omega)⟩
    · rw [if_neg h1]; exact congrArg some (decide_eq_false (by omega)).symm
  · rw [if_neg h0]
    by_cases h1 : a > 0
    · rw [if_pos h1]
      by_cases h2 : a ≤ 3
      · rw [if_pos h2]; congr 1; exact Bool.eq_iff_iff.2 ⟨fun h => decide_eq_true (by have := eq_of_beq h; omega), fun h => beq_iff_eq.2 (by have := of_decide_eq_true h; omega)⟩
      · rw [if_neg h2]; exact congrArg some (decide_eq_false (by omega)).symm
    · rw [if_neg h1]; exact congrArg some (decide_eq_false (by omega)).symm
end Go.Proofs.YthedigbdkjcpfaaGreatDoor.NumO
