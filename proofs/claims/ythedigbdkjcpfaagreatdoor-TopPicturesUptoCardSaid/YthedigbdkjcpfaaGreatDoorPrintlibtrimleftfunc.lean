-- Laid by xprint.py (ours), out of the seat's translation; Lean checks it.
import Derived.Test.YthedigbdkjcpfaaGreatDoorPrint0
import Derived.Test.YthedigbdkjcpfaaGreatDoorPrintlibindex
import Derived.Test.YthedigbdkjcpfaaGreatDoorShelf
import Derived.LoopTactic
import Derived.Lib.Hide
namespace Go.Proofs.YthedigbdkjcpfaaGreatDoor.Print
open Go.RowKit Go.Proofs.YthedigbdkjcpfaaGreatDoorW.PrintWords Go.Proofs.YthedigbdkjcpfaaGreatDoorW.PrintLast Go.Proofs.YthedigbdkjcpfaaGreatDoorW.PrintMore
attribute [local go_sem] max2_int min2_int max_two min_two max_three min_three max_four min_four   -- for this text's walks alone
open Go.Proofs.YthedigbdkjcpfaaGreatDoor.Plain
set_option linter.unusedVariables false
set_option linter.unusedSimpArgs false

-- GIVEN strings.TrimLeftFunc making
/-- no sign of a picture's body, of a rune's number -/
def notSign (x : Nat) : Bool := decide (Lib.indexByte [35, 48, 44, 46] (x % 256).toUInt8 < 0) || decide (127 < x)
set_option maxRecDepth 100000 in
set_option maxHeartbeats 2000000 in
theorem sign_pred (w : World) (HL : Laid w) : PredGrows Tryz.prog 67 #[] notSign w := by
  intro W x hx hb
  have HLW := HL.below hb
  have h8 : IntKind.u8.wrap (x : Int) = ((x % 256 : Nat) : Int) := by rw [IntKind.wrap_u8]; omega
  obtain ⟨m, hm⟩ : ∃ m : Nat, x % 256 = m := ⟨_, rfl⟩
  have hml : m < 256 := by omega
  obtain ⟨j, hj⟩ : ∃ j, Lib.indexByte [35, 48, 44, 46] m.toUInt8 = j := ⟨_, rfl⟩
  have hn : notSign x = (decide (j < 0) || decide (127 < x)) := by unfold notSign; rw [hm, hj]
  have cI := strings_IndexByte.calls ⟨#[35, 48, 44, 46]⟩ (m : Int) j W HLW (by unfold strings_IndexByte.f; rw [Int.toNat_natCast]; rw [← hj])
  have HI := Lib.hid cI
  rw [hm] at h8
  rw [hn]
  clear cI hn hj
  show Calls Tryz.prog 67 #[.int .i32 (x : Int)] W fun e w' => e = .returned (.bool (decide (j < 0) || decide (127 < x))) ∧ Below W.heap.size W w'
  by_cases hj0 : j < 0
  · have d1 : decide (j < 0) = true := decide_eq_true hj0
    go_enter Tryz.func67, Tryz.ntmps67
    go_wp2_with (go_at_call 68; refine HI.out.mono ?_; rintro e w' ⟨rfl, ⟨q, rfl⟩⟩)
    go_ret
    exact ⟨by simp [hj0], pw_below_drewN (Below.refl _ _) _⟩
  · have d1 : decide (j < 0) = false := decide_eq_false hj0
    have d2 : decide ((x : Int) > 127) = decide (127 < x) := by rw [Bool.eq_iff_iff]; simp; omega
    go_enter Tryz.func67, Tryz.ntmps67
    go_wp2_with (go_at_call 68; refine HI.out.mono ?_; rintro e w' ⟨rfl, ⟨q, rfl⟩⟩)
    go_ret
    exact ⟨by rw [d1, Bool.false_or]; first | rfl | rw [← d2] | (congr 2), pw_below_drewN (Below.refl _ _) _⟩
def strings_TrimLeftFunc.f (a0 : ByteArray) (a1 : Nat) : Option ByteArray := if a1 = 67 then some (Lib.trimLeftF notSign a0) else none
theorem strings_TrimLeftFunc.calls (a0 : ByteArray) (a1 : Nat) (r : ByteArray) (w : World) (HL : Laid w) (h : strings_TrimLeftFunc.f a0 a1 = some r) :
    Calls Tryz.prog 66 #[.string a0, .func (.func a1) #[] #[]] w fun e w' => e = .returned (.string r) ∧ Below w.heap.size w w' := by
  unfold strings_TrimLeftFunc.f at h
  split at h
  · rename_i hs
    subst hs
    obtain rfl := Option.some.inj h
    exact Tryz.strings_TrimLeftFunc_grows 67 #[] (enters_of Tryz.func67 (by kernel_rfl) rfl) notSign a0 w (sign_pred w HL)
  · cases h

end Go.Proofs.YthedigbdkjcpfaaGreatDoor.Print
