/- Words for numbers, without Go and memory. -/
import Derived.Test.YthedigbdkjcpfaaGreatDoorNumR
namespace Go.Proofs.YthedigbdkjcpfaaGreatDoor.NumA
open Go.RowKit Go.Proofs.YthedigbdkjcpfaaGreatDoorW.PrintWords Go.Proofs.YthedigbdkjcpfaaGreatDoor.Plain Go.Proofs.YthedigbdkjcpfaaGreatDoor.Print Go.Proofs.YthedigbdkjcpfaaGreatDoor.NumO
/-- as Option.bind_some, but no step that the kernel takes by unfolding -/
theorem obind {α β : Type} (x : α) (f : α → Option β) : (some x).bind f = f x := by rw [Option.bind_some]
theorem w64 {x : Int} (h : -9223372036854775808 ≤ x) (h2 : x < 9223372036854775808) : wrap64 x = x := by unfold wrap64; omega
theorem wu (x : Int) : IntKind.u64.wrap x = x % 18446744073709551616 := IntKind.wrap_u64 x
theorem right_v {a v : Int} (h : RightP a v) : -1000000000000000000 ≤ v ∧ v ≤ 1000000000000000000 := by unfold RightP at h; omega
theorem right_a {a v : Int} (h : RightP a v) : a = 0 ∨ a = 1 ∨ a = 2 ∨ a = 3 := by unfold RightP at h; omega
theorem right_0 {a v : Int} (h : RightP a v) (ha : a ≠ 0) : v = 0 := by unfold RightP at h; omega
end Go.Proofs.YthedigbdkjcpfaaGreatDoor.NumA
