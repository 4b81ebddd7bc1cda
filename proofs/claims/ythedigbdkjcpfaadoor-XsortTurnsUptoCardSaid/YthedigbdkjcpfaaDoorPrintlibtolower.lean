-- Laid by xprint.py (ours), out of the seat's translation; Lean checks it.
import Derived.Test.YthedigbdkjcpfaaDoorPrint0
import Derived.Test.YthedigbdkjcpfaaDoorShelf
import Derived.Shelf.Strings.CaseAny
namespace Go.Proofs.YthedigbdkjcpfaaDoor.Print
open Go.RowKit Go.Proofs.YthedigbdkjcpfaaDoorW.PrintWords Go.Proofs.YthedigbdkjcpfaaDoorW.PrintLast Go.Proofs.YthedigbdkjcpfaaDoorW.PrintMore
attribute [local go_sem] max2_int min2_int max_two min_two max_three min_three max_four min_four   -- for this text's walks alone
open Go.Proofs.YthedigbdkjcpfaaDoor.Plain
set_option linter.unusedVariables false
set_option linter.unusedSimpArgs false

-- GIVEN strings.ToLower making
-- GIVEN strings.ToUpper making
def strings_ToLower.f (a0 : ByteArray) : Option ByteArray := if a0.size < 35184372088832 then some ⟨(Lib.toLowerD a0.data.toList).toArray⟩ else none
theorem strings_ToLower.calls (a0 : ByteArray) (r : ByteArray) (w : World) (HL : Laid w) (h : strings_ToLower.f a0 = some r) :
    Calls Tryd.prog 31 #[.string a0] w fun e w' => e = .returned (.string r) ∧ Below w.heap.size w w' := by
  unfold strings_ToLower.f at h
  split at h
  · rename_i hs
    obtain rfl := Option.some.inj h
    exact Any.strings_ToLower_any Tryd.lays159 Tryd.Builder_Extra_159 a0 w hs HL.caseV HL.tabs
  · cases h
def strings_ToUpper.f (a0 : ByteArray) : Option ByteArray := if a0.size < 35184372088832 then some ⟨(Lib.toUpperD a0.data.toList).toArray⟩ else none
theorem strings_ToUpper.calls (a0 : ByteArray) (r : ByteArray) (w : World) (HL : Laid w) (h : strings_ToUpper.f a0 = some r) :
    Calls Tryd.prog 34 #[.string a0] w fun e w' => e = .returned (.string r) ∧ Below w.heap.size w w' := by
  unfold strings_ToUpper.f at h
  split at h
  · rename_i hs
    obtain rfl := Option.some.inj h
    exact Any.strings_ToUpper_any Tryd.lays158 Tryd.Builder_Extra_158 a0 w hs HL.caseV HL.tabs
  · cases h

end Go.Proofs.YthedigbdkjcpfaaDoor.Print
