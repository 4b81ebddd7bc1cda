-- Laid by xprint.py (ours), out of the seat's translation; Lean checks it.
import Derived.Test.YthedigbdkjcpfaaDoorPrint0
namespace Go.Proofs.YthedigbdkjcpfaaDoor.Print
open Go.RowKit Go.Proofs.YthedigbdkjcpfaaDoorW.PrintWords Go.Proofs.YthedigbdkjcpfaaDoorW.PrintLast Go.Proofs.YthedigbdkjcpfaaDoorW.PrintMore
attribute [local go_sem] max2_int min2_int max_two min_two max_three min_three max_four min_four   -- for this text's walks alone
open Go.Proofs.YthedigbdkjcpfaaDoor.Plain
set_option linter.unusedVariables false
set_option linter.unusedSimpArgs false

-- GIVEN cmp.Compare[string]
def cmp_Compare_string.f (a0 a1 : ByteArray) : Option (Int) := some (if Op.bytesLess a0.toList a1.toList = true then -1 else if (a0.toList == a1.toList) = true then 0 else 1)
theorem cmp_isNaN_s (s : ByteArray) (w : World) : Calls Tryd.prog 47 #[.string s] w fun e w' => e = .returned (.bool false) ∧ Drawn0 w w' := by
  have hs : (s.toList == s.toList) = true := by simp
  go_enter Tryd.func47, Tryd.ntmps47
  go_wp2
  go_ret
  exact ⟨by simp, by repeat (first | exact Drawn0.refl _ | apply Drawn0.step)⟩
set_option maxHeartbeats 8000000 in
set_option maxRecDepth 100000 in
theorem cmp_Compare_string.calls (a0 : ByteArray) (a1 : ByteArray) (r : Int) (w : World) (HLD : Laid w) (h : cmp_Compare_string.f a0 a1 = some r) :
    Calls Tryd.prog 28 #[.string a0, .string a1] w fun e w' => e = .returned (.int .i64 r) ∧ Drawn0 w w' := by
  have H := Option.some.inj h
  clear h
  obtain ⟨l, hl⟩ : ∃ b, b = Op.bytesLess a0.toList a1.toList := ⟨_, rfl⟩
  obtain ⟨q, hq⟩ : ∃ b, b = (a0.toList == a1.toList) := ⟨_, rfl⟩
  rw [← hl, ← hq] at H
  replace hl := hl.symm
  replace hq := hq.symm
  have C0 := fun w => cmp_isNaN_s a0 w
  have C1 := fun w => cmp_isNaN_s a1 w
  have G : Go.binOp .gtr 9 (Value.string a0) (Value.string a1) = pure (Value.bool (!(Op.bytesLess a0.toList a1.toList || a0.toList == a1.toList))) := by simp [Go.binOp, Op.stringOp]
  rw [hl, hq] at G
  cases l <;> cases q <;> simp only [if_true, if_false, Bool.false_eq_true] at H <;> subst H
  all_goals
    go_enter Tryd.func28, Tryd.ntmps28
    go_wp2_with (first
      | (go_at_call_of 47 (Value.string a0); refine (C0 _).mono ?_; rintro e w1 ⟨rfl, ⟨n1, rfl⟩⟩)
      | (go_at_call_of 47 (Value.string a1); refine (C1 _).mono ?_; rintro e w1 ⟨rfl, ⟨n2, rfl⟩⟩))
    go_ret
    exact ⟨by first | rfl | simp, by repeat (first | exact Drawn0.refl _ | apply Drawn0.step)⟩

end Go.Proofs.YthedigbdkjcpfaaDoor.Print
