/- XcharKinds, without Go and memory. -/
import Derived.Test.YtinefoocajnhmaaDoorPrintf29
import Derived.Test.YtinefoocajnhmaaDoorPrintlaw01live
import Derived.Test.YtinefoocajnhmaaDoorPrintxcharkinds
import Derived.Test.YtinefoocajnhmaaDoorPrintf38
import Derived.Test.YtinefoocajnhmaaDoorFactsA
namespace Go.Proofs.YtinefoocajnhmaaDoor.Pure
open Go.RowKit Go.Proofs.YtinefoocajnhmaaDoorW.PrintWords Go.Proofs.YtinefoocajnhmaaDoor.Plain Go.Proofs.YtinefoocajnhmaaDoor.Print Go.Proofs.YtinefoocajnhmaaDoor.Facts

theorem XcharKinds (a0 : Int) (hw : (Lit.int .i32 a0).wf = true) : ∃ k, stencillaw01_XcharKinds.f k a0 = some true := by
  have hb : -2147483648 ≤ a0 ∧ a0 ≤ 2147483647 := by
    simp [Lit.wf, IntKind.min, IntKind.max, IntKind.signed, IntKind.bits] at hw
    omega
  refine ⟨20, ?_⟩
  have e1 : xchar_IsChar.f a0 = some (inSpans isCharL a0) := by unfold xchar_IsChar.f; rw [if_pos hb]
  have e2 : xchar_Begins.f a0 = some (beginsS a0) := by unfold xchar_Begins.f; rw [if_pos hb]
  have e3 : xchar_GoesOn.f a0 = some (goesOnS a0) := by unfold xchar_GoesOn.f; rw [if_pos hb]
  have e4 : xchar_IsBlank.f a0 = some (decide (a0 = 9) || decide (a0 = 10) || decide (a0 = 13) || decide (a0 = 32)) := by
    unfold xchar_IsBlank.f
    repeat' split
    all_goals (rw [Option.some.injEq, Bool.eq_iff_iff]; simp; omega)
  unfold stencillaw01_XcharKinds.f stencillaw01_live.f
  rw [e1, e2, e3, e4, isChar_f, isBlank_ref, begins_f a0 20 (by omega), goes_f a0 20 (by omega)]
  simp only [Option.bind_some, beq_self_eq_true, if_true]
  by_cases hg : goesOnS a0 = true
  · have hc := goesOn_isChar a0 hg
    rw [hg, hc]
    cases beginsS a0 <;> rfl
  · have hg' : goesOnS a0 = false := by simpa using hg
    have hbg : beginsS a0 = false := by
      unfold goesOnS at hg'
      simp only [Bool.or_eq_false_iff] at hg'
      exact hg'.1.1
    rw [hg', hbg]
    simp
end Go.Proofs.YtinefoocajnhmaaDoor.Pure
