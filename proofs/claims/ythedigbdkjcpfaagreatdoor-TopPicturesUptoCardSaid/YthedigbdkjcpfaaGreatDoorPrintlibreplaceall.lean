-- Laid by xprint.py (ours), out of the seat's translation; Lean checks it.
import Derived.Test.YthedigbdkjcpfaaGreatDoorPrint0
import Derived.Test.YthedigbdkjcpfaaGreatDoorShelf
namespace Go.Proofs.YthedigbdkjcpfaaGreatDoor.Print
open Go.RowKit Go.Proofs.YthedigbdkjcpfaaGreatDoorW.PrintWords Go.Proofs.YthedigbdkjcpfaaGreatDoorW.PrintLast Go.Proofs.YthedigbdkjcpfaaGreatDoorW.PrintMore
attribute [local go_sem] max2_int min2_int max_two min_two max_three min_three max_four min_four   -- for this text's walks alone
open Go.Proofs.YthedigbdkjcpfaaGreatDoor.Plain
set_option linter.unusedVariables false
set_option linter.unusedSimpArgs false

-- GIVEN strings.ReplaceAll making
def strings_ReplaceAll.f (a0 a1 a2 : ByteArray) : Option ByteArray :=
  if a0.size < 4294967281 ∧ 1 ≤ a1.size ∧ a0.size + Lib.countB a0 a1 * a2.size ≤ 140737488355328 then some ⟨(Lib.replaceAll a0.data.toList a1.data.toList a2.data.toList).toArray⟩ else none
theorem strings_ReplaceAll.calls (a0 a1 a2 : ByteArray) (r : ByteArray) (w : World) (HL : Laid w) (h : strings_ReplaceAll.f a0 a1 a2 = some r) :
    Calls Tryz.prog 55 #[.string a0, .string a1, .string a2] w fun e w' => e = .returned (.string r) ∧ Below w.heap.size w w' := by
  unfold strings_ReplaceAll.f at h
  split at h
  · rename_i hs
    obtain rfl := Option.some.inj h
    obtain ⟨m, hm⟩ := HL.maxLen
    exact Tryz.strings_ReplaceAll a0 a1 a2 m w hs.1 hm hs.2.1 hs.2.2
  · cases h

end Go.Proofs.YthedigbdkjcpfaaGreatDoor.Print
