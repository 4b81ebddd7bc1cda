-- Laid by xprint.py (ours), out of the seat's translation; Lean checks it.
import Derived.Test.YthedigbdkjcpfaaDoorPrint0
import Derived.Test.YthedigbdkjcpfaaDoorShelf
namespace Go.Proofs.YthedigbdkjcpfaaDoor.Print
open Go.RowKit Go.Proofs.YthedigbdkjcpfaaDoorW.PrintWords Go.Proofs.YthedigbdkjcpfaaDoorW.PrintLast Go.Proofs.YthedigbdkjcpfaaDoorW.PrintMore
attribute [local go_sem] max2_int min2_int max_two min_two max_three min_three max_four min_four   -- for this text's walks alone
open Go.Proofs.YthedigbdkjcpfaaDoor.Plain
set_option linter.unusedVariables false
set_option linter.unusedSimpArgs false

-- GIVEN strings.Repeat making
def strings_Repeat.f (a0 : ByteArray) (a1 : Int) : Option ByteArray := if 0 ≤ a1 ∧ a1 ≤ 9223372036854775807 ∧ a0.size * a1.toNat ≤ 140737488355328 then some ⟨(Lib.repeatL a0.data.toList a1.toNat).toArray⟩ else none
theorem strings_Repeat.calls (a0 : ByteArray) (a1 : Int) (r : ByteArray) (w : World) (HL : Laid w) (h : strings_Repeat.f a0 a1 = some r) :
    Calls Tryd.prog 23 #[.string a0, .int .i64 a1] w fun e w' => e = .returned (.string r) ∧ Below w.heap.size w w' := by
  unfold strings_Repeat.f at h
  split at h
  · rename_i hs
    obtain rfl := Option.some.inj h
    obtain ⟨n, rfl⟩ : ∃ n : Nat, a1 = (n : Int) := ⟨a1.toNat, by omega⟩
    rw [Int.toNat_natCast] at hs ⊢
    exact Tryd.strings_Repeat a0 n w (by omega) hs.2.2
  · cases h

end Go.Proofs.YthedigbdkjcpfaaDoor.Print
