-- Laid by xprint.py (ours), out of the seat's translation; Lean checks it.
import Derived.Test.YthedigbdkjcpfaaDoorPrint0
import Derived.WalkLawsBesides
import Derived.Deep.QuietTactic
import Derived.BigQuiet
namespace Go.Proofs.YthedigbdkjcpfaaDoor.Print
open Go.RowKit Go.Proofs.YthedigbdkjcpfaaDoorW.PrintWords Go.Proofs.YthedigbdkjcpfaaDoorW.PrintLast Go.Proofs.YthedigbdkjcpfaaDoorW.PrintMore
attribute [local go_sem] max2_int min2_int max_two min_two max_three min_three max_four min_four   -- for this text's walks alone
open Go.Proofs.YthedigbdkjcpfaaDoor.Plain
set_option linter.unusedVariables false
set_option linter.unusedSimpArgs false

-- GIVEN stencil/xnum.place making
def placeN (k : Int) : Int := if k ≤ 0 then 2 else if k = 1 then 0 else if k = 2 then 3 else 1
def xnum_place.f (a0_0 : Int) (a0_1 : Int) : Option (Int × Int) := some (placeN a0_0, a0_1)
set_option maxRecDepth 100000 in
set_option maxHeartbeats 4000000 in
theorem place_at (k v : Int) (w : World) (hk : k < 0 ∨ k = 0 ∨ k = 1 ∨ k = 2 ∨ k = 3 ∨ 3 < k) :
    Calls Tryd.prog 86 #[.agg #[.int .i64 k, .int .i64 v]] w fun e w' => e = .returned (.tuple #[.int .i64 (placeN k), .int .i64 v]) ∧ Below w.heap.size w w' := by
  have i0 : ∀ w, (Instr.index 135 (.agg #[.int .i64 2, .int .i64 0, .int .i64 3, .int .i64 1]) (.int .i64 0)).run Tryd.prog w = .ok (.int .i64 2) w := fun _ => by kernel_rfl
  have i1 : ∀ w, (Instr.index 135 (.agg #[.int .i64 2, .int .i64 0, .int .i64 3, .int .i64 1]) (.int .i64 1)).run Tryd.prog w = .ok (.int .i64 0) w := fun _ => by kernel_rfl
  have i2 : ∀ w, (Instr.index 135 (.agg #[.int .i64 2, .int .i64 0, .int .i64 3, .int .i64 1]) (.int .i64 2)).run Tryd.prog w = .ok (.int .i64 3) w := fun _ => by kernel_rfl
  have i3 : ∀ w, (Instr.index 135 (.agg #[.int .i64 2, .int .i64 0, .int .i64 3, .int .i64 1]) (.int .i64 3)).run Tryd.prog w = .ok (.int .i64 1) w := fun _ => by kernel_rfl
  rcases hk with hk | rfl | rfl | rfl | rfl | hk
  · have e : placeN k = 2 := by unfold placeN; rw [if_pos (by omega)]
    rw [e]
    go_enter Tryd.func86, Tryd.ntmps86
    go_wp2
    go_quiet (fail)
    go_wp2
    go_ret2
    exact ⟨rfl, pw_below_drewN ((Below.refl _ w).alloc (Nat.le_refl _) _) _⟩
  · go_enter Tryd.func86, Tryd.ntmps86
    go_wp2
    go_quiet (fail)
    go_wp2
    go_ret2
    exact ⟨rfl, pw_below_drewN ((Below.refl _ w).alloc (Nat.le_refl _) _) _⟩
  · go_enter Tryd.func86, Tryd.ntmps86
    go_wp2
    go_quiet (fail)
    go_wp2
    go_ret2
    exact ⟨rfl, pw_below_drewN ((Below.refl _ w).alloc (Nat.le_refl _) _) _⟩
  · go_enter Tryd.func86, Tryd.ntmps86
    go_wp2
    go_quiet (fail)
    go_wp2
    go_ret2
    exact ⟨rfl, pw_below_drewN ((Below.refl _ w).alloc (Nat.le_refl _) _) _⟩
  · go_enter Tryd.func86, Tryd.ntmps86
    go_wp2
    go_quiet (fail)
    go_wp2
    go_ret2
    exact ⟨rfl, pw_below_drewN ((Below.refl _ w).alloc (Nat.le_refl _) _) _⟩
  · have e : placeN k = 1 := by unfold placeN; rw [if_neg (by omega), if_neg (by omega), if_neg (by omega)]
    rw [e]
    have h0 : ¬ k < 0 := by omega
    go_enter Tryd.func86, Tryd.ntmps86
    go_wp2
    go_quiet (fail)
    go_wp2
    go_ret2
    exact ⟨rfl, pw_below_drewN ((Below.refl _ w).alloc (Nat.le_refl _) _) _⟩
theorem xnum_place.calls (a0_0 : Int) (a0_1 : Int) (r1 : Int) (r2 : Int) (w : World) (HLD : Laid w) (h : xnum_place.f a0_0 a0_1 = some (r1, r2)) :
    Calls Tryd.prog 86 #[.agg #[.int .i64 a0_0, .int .i64 a0_1]] w fun e w' => e = .returned (.tuple #[.int .i64 r1, .int .i64 r2]) ∧ Below w.heap.size w w' := by
  simp only [xnum_place.f, Option.some.injEq, Prod.mk.injEq] at h
  obtain ⟨rfl, rfl⟩ := h
  exact place_at a0_0 a0_1 w (by omega)

end Go.Proofs.YthedigbdkjcpfaaDoor.Print
