-- Laid by xprint.py (ours), out of the seat's translation; Lean checks it.
import Derived.Test.YthedigbdkjcpfaaDoorPrint0
import Derived.Test.YthedigbdkjcpfaaDoorPrintf20
namespace Go.Proofs.YthedigbdkjcpfaaDoor.Print
open Go.RowKit Go.Proofs.YthedigbdkjcpfaaDoorW.PrintWords Go.Proofs.YthedigbdkjcpfaaDoorW.PrintLast Go.Proofs.YthedigbdkjcpfaaDoorW.PrintMore
attribute [local go_sem] max2_int min2_int max_two min_two max_three min_three max_four min_four   -- for this text's walks alone
open Go.Proofs.YthedigbdkjcpfaaDoor.Plain
set_option linter.unusedVariables false
set_option linter.unusedSimpArgs false

/-! ### stencilref13_Read: function 22 -/
mutual
def stencilref13_Read.j7 : Nat → ByteArray → ByteArray → Int → Option (Int × Int)
  | 0, _, _, _ => none
  | k + 1, x0, x1, x8 => if x8 < 1 then (stencilref13_Read.j8 k x0 x1 x8 true) else (stencilref13_Read.j8 k x0 x1 x8 (decide (x8 > 1000000000)))
def stencilref13_Read.j8 : Nat → ByteArray → ByteArray → Int → Bool → Option (Int × Int)
  | 0, _, _, _, _ => none
  | k + 1, x0, x1, x8, x130 => if x130 = true then (some (0, 5)) else ((stencilref13_Format.f k x8 x1).bind fun bt158 => (if bt158.1.toList = x0.toList then (some (x8, 0)) else (some (0, 5))))
def stencilref13_Read.j0 : Nat → ByteArray → ByteArray → Int → Bool → Option (Int × Int)
  | 0, _, _, _, _ => none
  | k + 1, x0, x1, x8, x53 => if x53 = true then (stencilref13_Read.l0 k x0 x1 x8 1) else (if x1.toList = ([97] : List UInt8) then (stencilref13_Read.j2 k x0 x1 x8 true) else (stencilref13_Read.j2 k x0 x1 x8 (x1.toList == ([65] : List UInt8))))
def stencilref13_Read.l0 : Nat → ByteArray → ByteArray → Int → Int → Option (Int × Int)
  | 0, _, _, _, _ => none
  | k + 1, x0, x1, x8, x9 => if x9 ≤ 3999 then ((stencilref13_Format.f k x9 x1).bind fun bt156 => (if bt156.1.toList = x0.toList then (stencilref13_Read.l0 k x0 x1 x9 (wrap64 (x9 + 1))) else (stencilref13_Read.l0 k x0 x1 x8 (wrap64 (x9 + 1))))) else (stencilref13_Read.j7 k x0 x1 x8)
def stencilref13_Read.j2 : Nat → ByteArray → ByteArray → Int → Bool → Option (Int × Int)
  | 0, _, _, _, _ => none
  | k + 1, x0, x1, x8, x88 => if x88 = true then (stencilref13_Read.l1 k x0 x1 x8 0) else (stencilref13_Read.l2 k x0 x1 x8 0)
def stencilref13_Read.l1 : Nat → ByteArray → ByteArray → Int → Int → Option (Int × Int)
  | 0, _, _, _, _ => none
  | k + 1, x0, x1, x8, x12 => if x12 < (x0.size : Int) then (stencilref13_Read.j4 k x0 x1 x8 x12 (decide (x8 ≤ 1000000000))) else (stencilref13_Read.j4 k x0 x1 x8 x12 false)
def stencilref13_Read.j4 : Nat → ByteArray → ByteArray → Int → Int → Bool → Option (Int × Int)
  | 0, _, _, _, _, _ => none
  | k + 1, x0, x1, x8, x12, x102 => if x102 = true then (if 0 ≤ x12 then (if x12 < (x0.size : Int) then (if x1.toList = ([65] : List UInt8) then (if (wrap64 ((wrap64 ((wrap64 ((wrap64 (bt x0 x12)) - 97)) + 1)) + 32)) < 1 then (some (0, 5)) else (if (wrap64 ((wrap64 ((wrap64 ((wrap64 (bt x0 x12)) - 97)) + 1)) + 32)) > 26 then (some (0, 5)) else (stencilref13_Read.l1 k x0 x1 (wrap64 ((wrap64 (x8 * 26)) + (wrap64 ((wrap64 ((wrap64 ((wrap64 (bt x0 x12)) - 97)) + 1)) + 32)))) (wrap64 (x12 + 1))))) else (if (wrap64 ((wrap64 ((wrap64 (bt x0 x12)) - 97)) + 1)) < 1 then (some (0, 5)) else (if (wrap64 ((wrap64 ((wrap64 (bt x0 x12)) - 97)) + 1)) > 26 then (some (0, 5)) else (stencilref13_Read.l1 k x0 x1 (wrap64 ((wrap64 (x8 * 26)) + (wrap64 ((wrap64 ((wrap64 (bt x0 x12)) - 97)) + 1)))) (wrap64 (x12 + 1)))))) else (none)) else (none)) else (stencilref13_Read.j7 k x0 x1 x8)
def stencilref13_Read.l2 : Nat → ByteArray → ByteArray → Int → Int → Option (Int × Int)
  | 0, _, _, _, _ => none
  | k + 1, x0, x1, x8, x14 => if x14 < (x0.size : Int) then (stencilref13_Read.j6 k x0 x1 x8 x14 (decide (x8 ≤ 1000000000))) else (stencilref13_Read.j6 k x0 x1 x8 x14 false)
def stencilref13_Read.j6 : Nat → ByteArray → ByteArray → Int → Int → Bool → Option (Int × Int)
  | 0, _, _, _, _, _ => none
  | k + 1, x0, x1, x8, x14, x32 => if x32 = true then (if 0 ≤ x14 then (if x14 < (x0.size : Int) then (if (bt x0 x14) < 48 then (some (0, 5)) else (if (bt x0 x14) > 57 then (some (0, 5)) else (stencilref13_Read.l2 k x0 x1 (wrap64 ((wrap64 (x8 * 10)) + (((bt x0 x14) - 48) % 256))) (wrap64 (x14 + 1))))) else (none)) else (none)) else (stencilref13_Read.j7 k x0 x1 x8)
end
def stencilref13_Read.f (k : Nat) (a0 : ByteArray) (a1 : ByteArray) : Option (Int × Int) := (stencilref13_Format.f k 1 a1).bind fun bt154 => (if bt154.2 = 0 then (if a1.toList = ([105] : List UInt8) then (if a0.toList = ([] : List UInt8) then (stencilref13_Read.j0 k a0 a1 0 false) else (if 0 < (a0.size : Int) then (if (bt a0 0) < 48 then (stencilref13_Read.j0 k a0 a1 0 true) else (stencilref13_Read.j0 k a0 a1 0 (decide ((bt a0 0) > 57)))) else (none))) else (if a1.toList = ([73] : List UInt8) then (if a0.toList = ([] : List UInt8) then (stencilref13_Read.j0 k a0 a1 0 false) else (if 0 < (a0.size : Int) then (if (bt a0 0) < 48 then (stencilref13_Read.j0 k a0 a1 0 true) else (stencilref13_Read.j0 k a0 a1 0 (decide ((bt a0 0) > 57)))) else (none))) else (stencilref13_Read.j0 k a0 a1 0 false))) else (some (0, bt154.2)))
theorem stencilref13_Read.mono_l : ∀ k, (∀ y0 y1 y2, LeO (stencilref13_Read.j7 k y0 y1 y2) (stencilref13_Read.j7 (k + 1) y0 y1 y2)) ∧ (∀ y0 y1 y2 y3, LeO (stencilref13_Read.j8 k y0 y1 y2 y3) (stencilref13_Read.j8 (k + 1) y0 y1 y2 y3)) ∧ (∀ y0 y1 y2 y3, LeO (stencilref13_Read.j0 k y0 y1 y2 y3) (stencilref13_Read.j0 (k + 1) y0 y1 y2 y3)) ∧ (∀ y0 y1 y2 y3, LeO (stencilref13_Read.l0 k y0 y1 y2 y3) (stencilref13_Read.l0 (k + 1) y0 y1 y2 y3)) ∧ (∀ y0 y1 y2 y3, LeO (stencilref13_Read.j2 k y0 y1 y2 y3) (stencilref13_Read.j2 (k + 1) y0 y1 y2 y3)) ∧ (∀ y0 y1 y2 y3, LeO (stencilref13_Read.l1 k y0 y1 y2 y3) (stencilref13_Read.l1 (k + 1) y0 y1 y2 y3)) ∧ (∀ y0 y1 y2 y3 y4, LeO (stencilref13_Read.j4 k y0 y1 y2 y3 y4) (stencilref13_Read.j4 (k + 1) y0 y1 y2 y3 y4)) ∧ (∀ y0 y1 y2 y3, LeO (stencilref13_Read.l2 k y0 y1 y2 y3) (stencilref13_Read.l2 (k + 1) y0 y1 y2 y3)) ∧ (∀ y0 y1 y2 y3 y4, LeO (stencilref13_Read.j6 k y0 y1 y2 y3 y4) (stencilref13_Read.j6 (k + 1) y0 y1 y2 y3 y4))
  | 0 => ⟨fun _ _ _ r h => by simp [stencilref13_Read.j7] at h, fun _ _ _ _ r h => by simp [stencilref13_Read.j8] at h, fun _ _ _ _ r h => by simp [stencilref13_Read.j0] at h, fun _ _ _ _ r h => by simp [stencilref13_Read.l0] at h, fun _ _ _ _ r h => by simp [stencilref13_Read.j2] at h, fun _ _ _ _ r h => by simp [stencilref13_Read.l1] at h, fun _ _ _ _ _ r h => by simp [stencilref13_Read.j4] at h, fun _ _ _ _ r h => by simp [stencilref13_Read.l2] at h, fun _ _ _ _ _ r h => by simp [stencilref13_Read.j6] at h⟩
  | k + 1 => by
    obtain ⟨ih0, ih1, ih2, ih3, ih4, ih5, ih6, ih7, ih8⟩ := stencilref13_Read.mono_l k
    refine ⟨?_, ?_, ?_, ?_, ?_, ?_, ?_, ?_, ?_⟩
    · intro y0 y1 y2
      unfold stencilref13_Read.j7
      repeat' first
      | (with_reducible exact ih0 _ _ _)
      | (with_reducible exact ih1 _ _ _ _)
      | (with_reducible exact ih2 _ _ _ _)
      | (with_reducible exact ih3 _ _ _ _)
      | (with_reducible exact ih4 _ _ _ _)
      | (with_reducible exact ih5 _ _ _ _)
      | (with_reducible exact ih6 _ _ _ _ _)
      | (with_reducible exact ih7 _ _ _ _)
      | (with_reducible exact ih8 _ _ _ _ _)
      | (with_reducible exact stencilref13_Format.mono _ _ _)
      | (with_reducible exact LeO.refl _)
      | (with_reducible exact LeO.none _)
      | (with_reducible refine LeO.ite ?_ ?_)
      | (with_reducible refine LeO.bind ?_ (fun _ => ?_))
      | exact ih0 _ _ _
      | exact ih1 _ _ _ _
      | exact ih2 _ _ _ _
      | exact ih3 _ _ _ _
      | exact ih4 _ _ _ _
      | exact ih5 _ _ _ _
      | exact ih6 _ _ _ _ _
      | exact ih7 _ _ _ _
      | exact ih8 _ _ _ _ _
      | exact stencilref13_Format.mono _ _ _
      | exact LeO.none _
      | refine LeO.ite ?_ ?_
      | refine LeO.bind ?_ (fun _ => ?_)
    · intro y0 y1 y2 y3
      unfold stencilref13_Read.j8
      repeat' first
      | (with_reducible exact ih0 _ _ _)
      | (with_reducible exact ih1 _ _ _ _)
      | (with_reducible exact ih2 _ _ _ _)
      | (with_reducible exact ih3 _ _ _ _)
      | (with_reducible exact ih4 _ _ _ _)
      | (with_reducible exact ih5 _ _ _ _)
      | (with_reducible exact ih6 _ _ _ _ _)
      | (with_reducible exact ih7 _ _ _ _)
      | (with_reducible exact ih8 _ _ _ _ _)
      | (with_reducible exact stencilref13_Format.mono _ _ _)
      | (with_reducible exact LeO.refl _)
      | (with_reducible exact LeO.none _)
      | (with_reducible refine LeO.ite ?_ ?_)
      | (with_reducible refine LeO.bind ?_ (fun _ => ?_))
      | exact ih0 _ _ _
      | exact ih1 _ _ _ _
      | exact ih2 _ _ _ _
      | exact ih3 _ _ _ _
      | exact ih4 _ _ _ _
      | exact ih5 _ _ _ _
      | exact ih6 _ _ _ _ _
      | exact ih7 _ _ _ _
      | exact ih8 _ _ _ _ _
      | exact stencilref13_Format.mono _ _ _
      | exact LeO.none _
      | refine LeO.ite ?_ ?_
      | refine LeO.bind ?_ (fun _ => ?_)
    · intro y0 y1 y2 y3
      unfold stencilref13_Read.j0
      repeat' first
      | (with_reducible exact ih0 _ _ _)
      | (with_reducible exact ih1 _ _ _ _)
      | (with_reducible exact ih2 _ _ _ _)
      | (with_reducible exact ih3 _ _ _ _)
      | (with_reducible exact ih4 _ _ _ _)
      | (with_reducible exact ih5 _ _ _ _)
      | (with_reducible exact ih6 _ _ _ _ _)
      | (with_reducible exact ih7 _ _ _ _)
      | (with_reducible exact ih8 _ _ _ _ _)
      | (with_reducible exact stencilref13_Format.mono _ _ _)
      | (with_reducible exact LeO.refl _)
      | (with_reducible exact LeO.none _)
      | (with_reducible refine LeO.ite ?_ ?_)
      | (with_reducible refine LeO.bind ?_ (fun _ => ?_))
      | exact ih0 _ _ _
      | exact ih1 _ _ _ _
      | exact ih2 _ _ _ _
      | exact ih3 _ _ _ _
      | exact ih4 _ _ _ _
      | exact ih5 _ _ _ _
      | exact ih6 _ _ _ _ _
      | exact ih7 _ _ _ _
      | exact ih8 _ _ _ _ _
      | exact stencilref13_Format.mono _ _ _
      | exact LeO.none _
      | refine LeO.ite ?_ ?_
      | refine LeO.bind ?_ (fun _ => ?_)
    · intro y0 y1 y2 y3
      unfold stencilref13_Read.l0
      repeat' first
      | (with_reducible exact ih0 _ _ _)
      | (with_reducible exact ih1 _ _ _ _)
      | (with_reducible exact ih2 _ _ _ _)
      | (with_reducible exact ih3 _ _ _ _)
      | (with_reducible exact ih4 _ _ _ _)
      | (with_reducible exact ih5 _ _ _ _)
      | (with_reducible exact ih6 _ _ _ _ _)
      | (with_reducible exact ih7 _ _ _ _)
      | (with_reducible exact ih8 _ _ _ _ _)
      | (with_reducible exact stencilref13_Format.mono _ _ _)
      | (with_reducible exact LeO.refl _)
      | (with_reducible exact LeO.none _)
      | (with_reducible refine LeO.ite ?_ ?_)
      | (with_reducible refine LeO.bind ?_ (fun _ => ?_))
      | exact ih0 _ _ _
      | exact ih1 _ _ _ _
      | exact ih2 _ _ _ _
      | exact ih3 _ _ _ _
      | exact ih4 _ _ _ _
      | exact ih5 _ _ _ _
      | exact ih6 _ _ _ _ _
      | exact ih7 _ _ _ _
      | exact ih8 _ _ _ _ _
      | exact stencilref13_Format.mono _ _ _
      | exact LeO.none _
      | refine LeO.ite ?_ ?_
      | refine LeO.bind ?_ (fun _ => ?_)
    · intro y0 y1 y2 y3
      unfold stencilref13_Read.j2
      repeat' first
      | (with_reducible exact ih0 _ _ _)
      | (with_reducible exact ih1 _ _ _ _)
      | (with_reducible exact ih2 _ _ _ _)
      | (with_reducible exact ih3 _ _ _ _)
      | (with_reducible exact ih4 _ _ _ _)
      | (with_reducible exact ih5 _ _ _ _)
      | (with_reducible exact ih6 _ _ _ _ _)
      | (with_reducible exact ih7 _ _ _ _)
      | (with_reducible exact ih8 _ _ _ _ _)
      | (with_reducible exact stencilref13_Format.mono _ _ _)
      | (with_reducible exact LeO.refl _)
      | (with_reducible exact LeO.none _)
      | (with_reducible refine LeO.ite ?_ ?_)
      | (with_reducible refine LeO.bind ?_ (fun _ => ?_))
      | exact ih0 _ _ _
      | exact ih1 _ _ _ _
      | exact ih2 _ _ _ _
      | exact ih3 _ _ _ _
      | exact ih4 _ _ _ _
      | exact ih5 _ _ _ _
      | exact ih6 _ _ _ _ _
      | exact ih7 _ _ _ _
      | exact ih8 _ _ _ _ _
      | exact stencilref13_Format.mono _ _ _
      | exact LeO.none _
      | refine LeO.ite ?_ ?_
      | refine LeO.bind ?_ (fun _ => ?_)
    · intro y0 y1 y2 y3
      unfold stencilref13_Read.l1
      repeat' first
      | (with_reducible exact ih0 _ _ _)
      | (with_reducible exact ih1 _ _ _ _)
      | (with_reducible exact ih2 _ _ _ _)
      | (with_reducible exact ih3 _ _ _ _)
      | (with_reducible exact ih4 _ _ _ _)
      | (with_reducible exact ih5 _ _ _ _)
      | (with_reducible exact ih6 _ _ _ _ _)
      | (with_reducible exact ih7 _ _ _ _)
      | (with_reducible exact ih8 _ _ _ _ _)
      | (with_reducible exact stencilref13_Format.mono _ _ _)
      | (with_reducible exact LeO.refl _)
      | (with_reducible exact LeO.none _)
      | (with_reducible refine LeO.ite ?_ ?_)
      | (with_reducible refine LeO.bind ?_ (fun _ => ?_))
      | exact ih0 _ _ _
      | exact ih1 _ _ _ _
      | exact ih2 _ _ _ _
      | exact ih3 _ _ _ _
      | exact ih4 _ _ _ _
      | exact ih5 _ _ _ _
      | exact ih6 _ _ _ _ _
      | exact ih7 _ _ _ _
      | exact ih8 _ _ _ _ _
      | exact stencilref13_Format.mono _ _ _
      | exact LeO.none _
      | refine LeO.ite ?_ ?_
      | refine LeO.bind ?_ (fun _ => ?_)
    · intro y0 y1 y2 y3 y4
      unfold stencilref13_Read.j4
      repeat' first
      | (with_reducible exact ih0 _ _ _)
      | (with_reducible exact ih1 _ _ _ _)
      | (with_reducible exact ih2 _ _ _ _)
      | (with_reducible exact ih3 _ _ _ _)
      | (with_reducible exact ih4 _ _ _ _)
      | (with_reducible exact ih5 _ _ _ _)
      | (with_reducible exact ih6 _ _ _ _ _)
      | (with_reducible exact ih7 _ _ _ _)
      | (with_reducible exact ih8 _ _ _ _ _)
      | (with_reducible exact stencilref13_Format.mono _ _ _)
      | (with_reducible exact LeO.refl _)
      | (with_reducible exact LeO.none _)
      | (with_reducible refine LeO.ite ?_ ?_)
      | (with_reducible refine LeO.bind ?_ (fun _ => ?_))
      | exact ih0 _ _ _
      | exact ih1 _ _ _ _
      | exact ih2 _ _ _ _
      | exact ih3 _ _ _ _
      | exact ih4 _ _ _ _
      | exact ih5 _ _ _ _
      | exact ih6 _ _ _ _ _
      | exact ih7 _ _ _ _
      | exact ih8 _ _ _ _ _
      | exact stencilref13_Format.mono _ _ _
      | exact LeO.none _
      | refine LeO.ite ?_ ?_
      | refine LeO.bind ?_ (fun _ => ?_)
    · intro y0 y1 y2 y3
      unfold stencilref13_Read.l2
      repeat' first
      | (with_reducible exact ih0 _ _ _)
      | (with_reducible exact ih1 _ _ _ _)
      | (with_reducible exact ih2 _ _ _ _)
      | (with_reducible exact ih3 _ _ _ _)
      | (with_reducible exact ih4 _ _ _ _)
      | (with_reducible exact ih5 _ _ _ _)
      | (with_reducible exact ih6 _ _ _ _ _)
      | (with_reducible exact ih7 _ _ _ _)
      | (with_reducible exact ih8 _ _ _ _ _)
      | (with_reducible exact stencilref13_Format.mono _ _ _)
      | (with_reducible exact LeO.refl _)
      | (with_reducible exact LeO.none _)
      | (with_reducible refine LeO.ite ?_ ?_)
      | (with_reducible refine LeO.bind ?_ (fun _ => ?_))
      | exact ih0 _ _ _
      | exact ih1 _ _ _ _
      | exact ih2 _ _ _ _
      | exact ih3 _ _ _ _
      | exact ih4 _ _ _ _
      | exact ih5 _ _ _ _
      | exact ih6 _ _ _ _ _
      | exact ih7 _ _ _ _
      | exact ih8 _ _ _ _ _
      | exact stencilref13_Format.mono _ _ _
      | exact LeO.none _
      | refine LeO.ite ?_ ?_
      | refine LeO.bind ?_ (fun _ => ?_)
    · intro y0 y1 y2 y3 y4
      unfold stencilref13_Read.j6
      repeat' first
      | (with_reducible exact ih0 _ _ _)
      | (with_reducible exact ih1 _ _ _ _)
      | (with_reducible exact ih2 _ _ _ _)
      | (with_reducible exact ih3 _ _ _ _)
      | (with_reducible exact ih4 _ _ _ _)
      | (with_reducible exact ih5 _ _ _ _)
      | (with_reducible exact ih6 _ _ _ _ _)
      | (with_reducible exact ih7 _ _ _ _)
      | (with_reducible exact ih8 _ _ _ _ _)
      | (with_reducible exact stencilref13_Format.mono _ _ _)
      | (with_reducible exact LeO.refl _)
      | (with_reducible exact LeO.none _)
      | (with_reducible refine LeO.ite ?_ ?_)
      | (with_reducible refine LeO.bind ?_ (fun _ => ?_))
      | exact ih0 _ _ _
      | exact ih1 _ _ _ _
      | exact ih2 _ _ _ _
      | exact ih3 _ _ _ _
      | exact ih4 _ _ _ _
      | exact ih5 _ _ _ _
      | exact ih6 _ _ _ _ _
      | exact ih7 _ _ _ _
      | exact ih8 _ _ _ _ _
      | exact stencilref13_Format.mono _ _ _
      | exact LeO.none _
      | refine LeO.ite ?_ ?_
      | refine LeO.bind ?_ (fun _ => ?_)
theorem stencilref13_Read.mono : ∀ a0 a1 k, LeO (stencilref13_Read.f k a0 a1) (stencilref13_Read.f (k + 1) a0 a1) := by
  intro a0 a1 k
  obtain ⟨ih0, ih1, ih2, ih3, ih4, ih5, ih6, ih7, ih8⟩ := stencilref13_Read.mono_l k
  unfold stencilref13_Read.f
  repeat' first
      | (with_reducible exact ih0 _ _ _)
      | (with_reducible exact ih1 _ _ _ _)
      | (with_reducible exact ih2 _ _ _ _)
      | (with_reducible exact ih3 _ _ _ _)
      | (with_reducible exact ih4 _ _ _ _)
      | (with_reducible exact ih5 _ _ _ _)
      | (with_reducible exact ih6 _ _ _ _ _)
      | (with_reducible exact ih7 _ _ _ _)
      | (with_reducible exact ih8 _ _ _ _ _)
      | (with_reducible exact stencilref13_Format.mono _ _ _)
      | (with_reducible exact LeO.refl _)
      | (with_reducible exact LeO.none _)
      | (with_reducible refine LeO.ite ?_ ?_)
      | (with_reducible refine LeO.bind ?_ (fun _ => ?_))
      | exact ih0 _ _ _
      | exact ih1 _ _ _ _
      | exact ih2 _ _ _ _
      | exact ih3 _ _ _ _
      | exact ih4 _ _ _ _
      | exact ih5 _ _ _ _
      | exact ih6 _ _ _ _ _
      | exact ih7 _ _ _ _
      | exact ih8 _ _ _ _ _
      | exact stencilref13_Format.mono _ _ _
      | exact LeO.none _
      | refine LeO.ite ?_ ?_
      | refine LeO.bind ?_ (fun _ => ?_)
set_option maxHeartbeats 8000000 in
set_option maxRecDepth 100000 in
theorem stencilref13_Read.calls (k : Nat) (a0 : ByteArray) (a1 : ByteArray) (r1 : Int) (r2 : Int) (w : World) (HLD : Laid w) (h : stencilref13_Read.f k a0 a1 = some (r1, r2)) :
    Calls Tryd.prog 22 #[.string a0, .string a1] w fun e w' => e = .returned (.tuple #[.int .i64 r1, .int .i64 r2]) ∧ Below w.heap.size w w' := by
  have HB := Aside0.mk (Below.refl w.heap.size w)
  have H : ((stencilref13_Format.f k 1 a1).bind fun bt154 => (if bt154.2 = 0 then (if a1.toList = ([105] : List UInt8) then (if a0.toList = ([] : List UInt8) then (stencilref13_Read.j0 k a0 a1 0 false) else (if 0 < (a0.size : Int) then (if (bt a0 0) < 48 then (stencilref13_Read.j0 k a0 a1 0 true) else (stencilref13_Read.j0 k a0 a1 0 (decide ((bt a0 0) > 57)))) else (none))) else (if a1.toList = ([73] : List UInt8) then (if a0.toList = ([] : List UInt8) then (stencilref13_Read.j0 k a0 a1 0 false) else (if 0 < (a0.size : Int) then (if (bt a0 0) < 48 then (stencilref13_Read.j0 k a0 a1 0 true) else (stencilref13_Read.j0 k a0 a1 0 (decide ((bt a0 0) > 57)))) else (none))) else (stencilref13_Read.j0 k a0 a1 0 false))) else (some (0, bt154.2)))) = some (r1, r2) := h
  clear h
  replace H := Option.bind_eq_some_iff.mp H
  obtain ⟨⟨t154, t155⟩, A30, H⟩ := H
  replace H : (if t155 = 0 then (if a1.toList = ([105] : List UInt8) then (if a0.toList = ([] : List UInt8) then (stencilref13_Read.j0 k a0 a1 0 false) else (if 0 < (a0.size : Int) then (if (bt a0 0) < 48 then (stencilref13_Read.j0 k a0 a1 0 true) else (stencilref13_Read.j0 k a0 a1 0 (decide ((bt a0 0) > 57)))) else (none))) else (if a1.toList = ([73] : List UInt8) then (if a0.toList = ([] : List UInt8) then (stencilref13_Read.j0 k a0 a1 0 false) else (if 0 < (a0.size : Int) then (if (bt a0 0) < 48 then (stencilref13_Read.j0 k a0 a1 0 true) else (stencilref13_Read.j0 k a0 a1 0 (decide ((bt a0 0) > 57)))) else (none))) else (stencilref13_Read.j0 k a0 a1 0 false))) else (some (0, t155))) = some (r1, r2) := H
  have A3 := Aside0.mk A30
  clear A30
  by_cases c4 : t155 = 0
  · rw [if_pos c4] at H
    have c4b0 : (t155 == 0) = true := beq_iff_eq.mpr c4
    have c4b1 : (t155 != 0) = false := bne_eq_false_iff_eq.mpr c4
    clear c4
    have HC5 := Aside0.mk H
    clear H
    go_enter Tryd.func22, Tryd.ntmps22
    go_upto_block 0 with (first | ((with_reducible refine gate_callee (f := 20) rfl ?_); refine goesL_ (some 19) rfl rfl Tryd.func20 (by kernel_rfl) rfl #[.int .i64 1, .string a1] rfl (by (try simp only [List.map_toArray, List.map_cons, List.map_nil]); first | done | rfl | (simp only [List.length_drop, List.length_take]; rfl)) ?_; (with_reducible refine (stencilref13_Format.calls k 1 a1 t154 t155 _ ?side1 A3.out).mono ?_); (case side1 => first | exact HLD | exact Laid.below HLD (by repeat (first | (with_reducible first | exact HB.out | apply below_alloc | apply pw_below_drewN | apply below_drew1) | exact HB.out))); rintro e w6 ⟨rfl, hb⟩; refine ⟨_, rfl, ?_⟩; have n0_ := Aside0.mk (below_step (by repeat (first | (with_reducible first | exact HB.out | apply below_alloc | apply pw_below_drewN | apply below_drew1) | exact HB.out)) hb); clear HB; have HB := n0_; clear n0_; (try clear hb); (try clear hb2); (try clear hk); (try clear hi)))
    (try simp only [Act.put, List.setIfInBounds_toArray, List.set_cons_zero, List.set_cons_succ])
    go_cut [8] (fun v8 wc => ∃ (kq : Nat) (x8_4 : Int), v8 = .int .i64 x8_4 ∧ Aside0 (stencilref13_Read.j7 kq a0 a1 x8_4 = some (r1, r2)) ∧ Aside0 (kq ≤ k) ∧ Aside0 (Below w.heap.size w wc))
    case first =>
      have H := HC5.out
      clear HC5
      have HC7 := Aside0.mk H
      clear H
      go_upto_region 11 with (fail)
      go_cut [53] (fun v53 wc => ∃ (kq : Nat) (x53_6 : Bool), v53 = .bool x53_6 ∧ Aside0 (stencilref13_Read.j0 kq a0 a1 0 x53_6 = some (r1, r2)) ∧ Aside0 (kq ≤ k) ∧ Aside0 (Below w.heap.size w wc))
      case first =>
        have H := HC7.out
        clear HC7
        by_cases c8 : a1.toList = ([105] : List UInt8)
        · rw [if_pos c8] at H
          have c8b0 : (a1.toList == ([105] : List UInt8)) = true := beq_iff_eq.mpr c8
          have c8b1 : (a1.toList != ([105] : List UInt8)) = false := bne_eq_false_iff_eq.mpr c8
          clear c8
          (first | rw [c8b0] | (simp only [i64_w, i32_w]; rw [c8b0]) | skip)
          by_cases c9 : a0.toList = ([] : List UInt8)
          · rw [if_pos c9] at H
            have c9b0 : (a0.toList == ([] : List UInt8)) = true := beq_iff_eq.mpr c9
            have c9b1 : (a0.toList != ([] : List UInt8)) = false := bne_eq_false_iff_eq.mpr c9
            clear c9
            have H' := Aside0.mk H
            clear H
            go_wp2
            go_meet
            case rel => exact ⟨_, (false), (by first | rfl | (simp; done) | (simp [*]; done)), H', ⟨by first | omega | exact Nat.le_refl _⟩, ⟨by repeat (first | (with_reducible first | exact HB.out | apply below_alloc | apply pw_below_drewN | apply below_drew1) | exact HB.out)⟩⟩
          · rw [if_neg c9] at H
            have c9b0 : (a0.toList == ([] : List UInt8)) = false := beq_eq_false_iff_ne.mpr c9
            have c9b1 : (a0.toList != ([] : List UInt8)) = true := bne_iff_ne.mpr c9
            by_cases c10 : 0 < (a0.size : Int)
            · rw [if_pos c10] at H
              have c10b0 : decide (0 < (a0.size : Int)) = true := decide_eq_true c10
              have c10b1 : decide (0 < a0.size) = true := decide_eq_true (by omega)
              clear c10
              by_cases c12 : (bt a0 0) < 48
              · rw [if_pos c12] at H
                have c12b0 : decide ((bt a0 0) < 48) = true := decide_eq_true c12
                clear c12
                have H' := Aside0.mk H
                clear H
                have p11 : 0 ≤ (0 : Int) := (by omega)
                have q11 : 0 < a0.size := (by have : (0 : Int) < (a0.size : Int) := of_decide_eq_true (by first | (with_reducible assumption) | assumption); omega)
                have hx11 : ∀ h : 0 < a0.size, ((a0[0]'h).toNat : Int) = bt a0 0 := bt_at a0 0
                clear p11
                have qi11 : (0 < (a0.size : Int)) = True := eq_true (of_decide_eq_true (by first | (with_reducible assumption) | assumption))
                replace q11 := eq_true q11
                go_wp2
                go_meet
                case rel => exact ⟨_, (true), (by first | rfl | (simp; done) | (simp [*]; done)), H', ⟨by first | omega | exact Nat.le_refl _⟩, ⟨by repeat (first | (with_reducible first | exact HB.out | apply below_alloc | apply pw_below_drewN | apply below_drew1) | exact HB.out)⟩⟩
              · rw [if_neg c12] at H
                have c12b0 : decide ((bt a0 0) < 48) = false := decide_eq_false c12
                clear c12
                have H' := Aside0.mk H
                clear H
                have p11 : 0 ≤ (0 : Int) := (by omega)
                have q11 : 0 < a0.size := (by have : (0 : Int) < (a0.size : Int) := of_decide_eq_true (by first | (with_reducible assumption) | assumption); omega)
                have hx11 : ∀ h : 0 < a0.size, ((a0[0]'h).toNat : Int) = bt a0 0 := bt_at a0 0
                clear p11
                have qi11 : (0 < (a0.size : Int)) = True := eq_true (of_decide_eq_true (by first | (with_reducible assumption) | assumption))
                replace q11 := eq_true q11
                have p13 : 0 ≤ (0 : Int) := (by omega)
                have q13 : 0 < a0.size := (by have : (0 : Int) < (a0.size : Int) := of_decide_eq_true (by first | (with_reducible assumption) | assumption); omega)
                have hx13 : ∀ h : 0 < a0.size, ((a0[0]'h).toNat : Int) = bt a0 0 := bt_at a0 0
                clear p13
                have qi13 : (0 < (a0.size : Int)) = True := eq_true (of_decide_eq_true (by first | (with_reducible assumption) | assumption))
                replace q13 := eq_true q13
                go_wp2
                go_meet
                case rel => exact ⟨_, (decide ((bt a0 0) > 57)), (by first | rfl | (simp; done) | (simp [*]; done)), H', ⟨by first | omega | exact Nat.le_refl _⟩, ⟨by repeat (first | (with_reducible first | exact HB.out | apply below_alloc | apply pw_below_drewN | apply below_drew1) | exact HB.out)⟩⟩
            · rw [if_neg c10] at H
              exact absurd H (by simp)
        · rw [if_neg c8] at H
          have c8b0 : (a1.toList == ([105] : List UInt8)) = false := beq_eq_false_iff_ne.mpr c8
          have c8b1 : (a1.toList != ([105] : List UInt8)) = true := bne_iff_ne.mpr c8
          (first | rw [c8b0] | (simp only [i64_w, i32_w]; rw [c8b0]) | skip)
          by_cases c14 : a1.toList = ([73] : List UInt8)
          · rw [if_pos c14] at H
            have c14b0 : (a1.toList == ([73] : List UInt8)) = true := beq_iff_eq.mpr c14
            have c14b1 : (a1.toList != ([73] : List UInt8)) = false := bne_eq_false_iff_eq.mpr c14
            clear c14
            by_cases c15 : a0.toList = ([] : List UInt8)
            · rw [if_pos c15] at H
              have c15b0 : (a0.toList == ([] : List UInt8)) = true := beq_iff_eq.mpr c15
              have c15b1 : (a0.toList != ([] : List UInt8)) = false := bne_eq_false_iff_eq.mpr c15
              clear c15
              have H' := Aside0.mk H
              clear H
              go_wp2
              go_meet
              case rel => exact ⟨_, (false), (by first | rfl | (simp; done) | (simp [*]; done)), H', ⟨by first | omega | exact Nat.le_refl _⟩, ⟨by repeat (first | (with_reducible first | exact HB.out | apply below_alloc | apply pw_below_drewN | apply below_drew1) | exact HB.out)⟩⟩
            · rw [if_neg c15] at H
              have c15b0 : (a0.toList == ([] : List UInt8)) = false := beq_eq_false_iff_ne.mpr c15
              have c15b1 : (a0.toList != ([] : List UInt8)) = true := bne_iff_ne.mpr c15
              by_cases c16 : 0 < (a0.size : Int)
              · rw [if_pos c16] at H
                have c16b0 : decide (0 < (a0.size : Int)) = true := decide_eq_true c16
                have c16b1 : decide (0 < a0.size) = true := decide_eq_true (by omega)
                clear c16
                by_cases c18 : (bt a0 0) < 48
                · rw [if_pos c18] at H
                  have c18b0 : decide ((bt a0 0) < 48) = true := decide_eq_true c18
                  clear c18
                  have H' := Aside0.mk H
                  clear H
                  have p17 : 0 ≤ (0 : Int) := (by omega)
                  have q17 : 0 < a0.size := (by have : (0 : Int) < (a0.size : Int) := of_decide_eq_true (by first | (with_reducible assumption) | assumption); omega)
                  have hx17 : ∀ h : 0 < a0.size, ((a0[0]'h).toNat : Int) = bt a0 0 := bt_at a0 0
                  clear p17
                  have qi17 : (0 < (a0.size : Int)) = True := eq_true (of_decide_eq_true (by first | (with_reducible assumption) | assumption))
                  replace q17 := eq_true q17
                  go_wp2
                  go_meet
                  case rel => exact ⟨_, (true), (by first | rfl | (simp; done) | (simp [*]; done)), H', ⟨by first | omega | exact Nat.le_refl _⟩, ⟨by repeat (first | (with_reducible first | exact HB.out | apply below_alloc | apply pw_below_drewN | apply below_drew1) | exact HB.out)⟩⟩
                · rw [if_neg c18] at H
                  have c18b0 : decide ((bt a0 0) < 48) = false := decide_eq_false c18
                  clear c18
                  have H' := Aside0.mk H
                  clear H
                  have p17 : 0 ≤ (0 : Int) := (by omega)
                  have q17 : 0 < a0.size := (by have : (0 : Int) < (a0.size : Int) := of_decide_eq_true (by first | (with_reducible assumption) | assumption); omega)
                  have hx17 : ∀ h : 0 < a0.size, ((a0[0]'h).toNat : Int) = bt a0 0 := bt_at a0 0
                  clear p17
                  have qi17 : (0 < (a0.size : Int)) = True := eq_true (of_decide_eq_true (by first | (with_reducible assumption) | assumption))
                  replace q17 := eq_true q17
                  have p19 : 0 ≤ (0 : Int) := (by omega)
                  have q19 : 0 < a0.size := (by have : (0 : Int) < (a0.size : Int) := of_decide_eq_true (by first | (with_reducible assumption) | assumption); omega)
                  have hx19 : ∀ h : 0 < a0.size, ((a0[0]'h).toNat : Int) = bt a0 0 := bt_at a0 0
                  clear p19
                  have qi19 : (0 < (a0.size : Int)) = True := eq_true (of_decide_eq_true (by first | (with_reducible assumption) | assumption))
                  replace q19 := eq_true q19
                  go_wp2
                  go_meet
                  case rel => exact ⟨_, (decide ((bt a0 0) > 57)), (by first | rfl | (simp; done) | (simp [*]; done)), H', ⟨by first | omega | exact Nat.le_refl _⟩, ⟨by repeat (first | (with_reducible first | exact HB.out | apply below_alloc | apply pw_below_drewN | apply below_drew1) | exact HB.out)⟩⟩
              · rw [if_neg c16] at H
                exact absurd H (by simp)
          · rw [if_neg c14] at H
            have c14b0 : (a1.toList == ([73] : List UInt8)) = false := beq_eq_false_iff_ne.mpr c14
            have c14b1 : (a1.toList != ([73] : List UInt8)) = true := bne_iff_ne.mpr c14
            have H' := Aside0.mk H
            clear H
            go_wp2
            go_meet
            case rel => exact ⟨_, (false), (by first | rfl | (simp; done) | (simp [*]; done)), H', ⟨by first | omega | exact Nat.le_refl _⟩, ⟨by repeat (first | (with_reducible first | exact HB.out | apply below_alloc | apply pw_below_drewN | apply below_drew1) | exact HB.out)⟩⟩
      case rest =>
        clear HC7
        try clear c1
        try clear p1
        try clear q1
        try clear hx1
        try clear qi1
        try clear c2
        try clear p2
        try clear c4
        try clear c4b0
        try clear c4b1
        try clear c8
        try clear c8b0
        try clear c8b1
        try clear c9
        try clear c9b0
        try clear c9b1
        try clear c10
        try clear c10b0
        try clear c10b1
        try clear p11
        try clear q11
        try clear hx11
        try clear qi11
        try clear c12
        try clear c12b0
        try clear p13
        try clear q13
        try clear hx13
        try clear qi13
        try clear c14
        try clear c14b0
        try clear c14b1
        try clear c15
        try clear c15b0
        try clear c15b1
        try clear c16
        try clear c16b0
        try clear c16b1
        try clear p17
        try clear q17
        try clear hx17
        try clear qi17
        try clear c18
        try clear c18b0
        try clear p19
        try clear q19
        try clear hx19
        try clear qi19
        try clear p11
        try clear p13
        try clear p17
        try clear p19
        try clear q11
        try clear q13
        try clear q17
        try clear q19
        obtain ⟨kq, x53_6, rfl, HA, HJ6, HB⟩ := hcut
        cases kq with
        | zero => exact absurd HA.out (by simp [stencilref13_Read.j0])
        | succ kj6 =>
          have H := HA.out
          clear HA
          simp only [stencilref13_Read.j0] at H
          by_cases c20 : x53_6 = true
          · subst c20
            have H1 : (stencilref13_Read.l0 kj6 a0 a1 0 1) = some (r1, r2) := by rw [if_pos rfl] at H; exact H
            clear H
            have H := H1
            clear H1
            have H' := Aside0.mk H
            clear H
            go_wp2
            go_loopg [8, 9] kj6 (fun kq v8 v9 w' => ∃ (x8_2 : Int) (x9_2 : Int), v8 = .int .i64 x8_2 ∧ v9 = .int .i64 x9_2 ∧ Aside0 (stencilref13_Read.l0 kq a0 a1 x8_2 x9_2 = some (r1, r2)) ∧ Aside0 (kq ≤ kj6) ∧ Aside0 (Below w.heap.size w w'))
            case atStart => exact ⟨(0), (1), (by first | rfl | (simp; done) | (simp [*]; done)), (by first | rfl | (simp; done) | (simp [*]; done)), H', ⟨Nat.le_refl _⟩, ⟨by repeat (first | (with_reducible first | exact HB.out | apply below_alloc | apply pw_below_drewN | apply below_drew1) | exact HB.out)⟩⟩
            case round =>
              clear H'
              try clear c1
              try clear p1
              try clear q1
              try clear hx1
              try clear qi1
              try clear c2
              try clear p2
              try clear c4
              try clear c4b0
              try clear c4b1
              try clear c8
              try clear c8b0
              try clear c8b1
              try clear c9
              try clear c9b0
              try clear c9b1
              try clear c10
              try clear c10b0
              try clear c10b1
              try clear p11
              try clear q11
              try clear hx11
              try clear qi11
              try clear c12
              try clear c12b0
              try clear p13
              try clear q13
              try clear hx13
              try clear qi13
              try clear c14
              try clear c14b0
              try clear c14b1
              try clear c15
              try clear c15b0
              try clear c15b1
              try clear c16
              try clear c16b0
              try clear c16b1
              try clear p17
              try clear q17
              try clear hx17
              try clear qi17
              try clear c18
              try clear c18b0
              try clear p19
              try clear q19
              try clear hx19
              try clear qi19
              try clear c20
              try clear p1
              try clear p11
              try clear p13
              try clear p17
              try clear p19
              try clear p2
              try clear q1
              try clear q11
              try clear q13
              try clear q17
              try clear q19
              obtain ⟨x8_2, x9_2, rfl, rfl, HA, HK2, HB⟩ := hrel
              cases gk with
              | zero => exact absurd HA.out (by simp [stencilref13_Read.l0])
              | succ k2 =>
                have H := HA.out
                clear HA
                simp only [stencilref13_Read.l0] at H
                by_cases c21 : x9_2 ≤ 3999
                · rw [if_pos c21] at H
                  have c21b0 : decide (x9_2 ≤ 3999) = true := decide_eq_true c21
                  clear c21
                  replace H := Option.bind_eq_some_iff.mp H
                  obtain ⟨⟨t156, t157⟩, A220, H⟩ := H
                  replace H : (if t156.toList = a0.toList then (stencilref13_Read.l0 k2 a0 a1 x9_2 (wrap64 (x9_2 + 1))) else (stencilref13_Read.l0 k2 a0 a1 x8_2 (wrap64 (x9_2 + 1)))) = some (r1, r2) := H
                  have A22 := Aside0.mk A220
                  clear A220
                  by_cases c23 : t156.toList = a0.toList
                  · rw [if_pos c23] at H
                    have c23b0 : (t156.toList == a0.toList) = true := beq_iff_eq.mpr c23
                    have c23b1 : (t156.toList != a0.toList) = false := bne_eq_false_iff_eq.mpr c23
                    clear c23
                    have H' := Aside0.mk H
                    clear H
                    go_wp2_with (first | ((with_reducible refine gate_callee (f := 20) rfl ?_); refine goesL_ (some 81) rfl rfl Tryd.func20 (by kernel_rfl) rfl #[.int .i64 x9_2, .string a1] rfl (by (try simp only [List.map_toArray, List.map_cons, List.map_nil]); first | done | rfl | (simp only [List.length_drop, List.length_take]; rfl)) ?_; (with_reducible refine (stencilref13_Format.calls k2 x9_2 a1 t156 t157 _ ?side1 A22.out).mono ?_); (case side1 => first | exact HLD | exact Laid.below HLD (by repeat (first | (with_reducible first | exact HB.out | apply below_alloc | apply pw_below_drewN | apply below_drew1) | exact HB.out))); rintro e w24 ⟨rfl, hb⟩; refine ⟨_, rfl, ?_⟩; have n0_ := Aside0.mk (below_step (by repeat (first | (with_reducible first | exact HB.out | apply below_alloc | apply pw_below_drewN | apply below_drew1) | exact HB.out)) hb); clear HB; have HB := n0_; clear n0_; (try clear hb); (try clear hb2); (try clear hk); (try clear hi)))
                    go_roundg k2
                    case measure => have := HJ6.out; have := HK2.out; omega
                    case rel => exact ⟨(x9_2), (wrap64 (x9_2 + 1)), (by first | rfl | (simp; done) | (simp [*]; done)), (by first | rfl | (simp; done) | (simp [*]; done)), H', ⟨by have := HJ6.out; have := HK2.out; omega⟩, ⟨by repeat (first | (with_reducible first | exact HB.out | apply below_alloc | apply pw_below_drewN | apply below_drew1) | exact HB.out)⟩⟩
                  · rw [if_neg c23] at H
                    have c23b0 : (t156.toList == a0.toList) = false := beq_eq_false_iff_ne.mpr c23
                    have c23b1 : (t156.toList != a0.toList) = true := bne_iff_ne.mpr c23
                    have H' := Aside0.mk H
                    clear H
                    go_wp2_with (first | ((with_reducible refine gate_callee (f := 20) rfl ?_); refine goesL_ (some 81) rfl rfl Tryd.func20 (by kernel_rfl) rfl #[.int .i64 x9_2, .string a1] rfl (by (try simp only [List.map_toArray, List.map_cons, List.map_nil]); first | done | rfl | (simp only [List.length_drop, List.length_take]; rfl)) ?_; (with_reducible refine (stencilref13_Format.calls k2 x9_2 a1 t156 t157 _ ?side1 A22.out).mono ?_); (case side1 => first | exact HLD | exact Laid.below HLD (by repeat (first | (with_reducible first | exact HB.out | apply below_alloc | apply pw_below_drewN | apply below_drew1) | exact HB.out))); rintro e w25 ⟨rfl, hb⟩; refine ⟨_, rfl, ?_⟩; have n0_ := Aside0.mk (below_step (by repeat (first | (with_reducible first | exact HB.out | apply below_alloc | apply pw_below_drewN | apply below_drew1) | exact HB.out)) hb); clear HB; have HB := n0_; clear n0_; (try clear hb); (try clear hb2); (try clear hk); (try clear hi)))
                    go_roundg k2
                    case measure => have := HJ6.out; have := HK2.out; omega
                    case rel => exact ⟨(x8_2), (wrap64 (x9_2 + 1)), (by first | rfl | (simp; done) | (simp [*]; done)), (by first | rfl | (simp; done) | (simp [*]; done)), H', ⟨by have := HJ6.out; have := HK2.out; omega⟩, ⟨by repeat (first | (with_reducible first | exact HB.out | apply below_alloc | apply pw_below_drewN | apply below_drew1) | exact HB.out)⟩⟩
                · rw [if_neg c21] at H
                  have c21b0 : decide (x9_2 ≤ 3999) = false := decide_eq_false c21
                  clear c21
                  have H' := Aside0.mk H
                  clear H
                  go_wp2
                  go_meet
                  case rel => exact ⟨_, (x8_2), (by first | rfl | (simp; done) | (simp [*]; done)), H', ⟨by have := HJ6.out; have := HK2.out; first | omega | exact Nat.le_refl _⟩, ⟨by repeat (first | (with_reducible first | exact HB.out | apply below_alloc | apply pw_below_drewN | apply below_drew1) | exact HB.out)⟩⟩
          · replace c20 := Bool.eq_false_iff.mpr c20
            subst c20
            have H1 : (if a1.toList = ([97] : List UInt8) then (stencilref13_Read.j2 kj6 a0 a1 0 true) else (stencilref13_Read.j2 kj6 a0 a1 0 (a1.toList == ([65] : List UInt8)))) = some (r1, r2) := by rw [if_neg (show ¬ (false = true) by decide)] at H; exact H
            clear H
            have H := H1
            clear H1
            have HC26 := Aside0.mk H
            clear H
            go_upto_region 18 with (fail)
            go_cut [88] (fun v88 wc => ∃ (kq : Nat) (x88_25 : Bool), v88 = .bool x88_25 ∧ Aside0 (stencilref13_Read.j2 kq a0 a1 0 x88_25 = some (r1, r2)) ∧ Aside0 (kq ≤ kj6) ∧ Aside0 (Below w.heap.size w wc))
            case first =>
              have H := HC26.out
              clear HC26
              by_cases c27 : a1.toList = ([97] : List UInt8)
              · rw [if_pos c27] at H
                have c27b0 : (a1.toList == ([97] : List UInt8)) = true := beq_iff_eq.mpr c27
                have c27b1 : (a1.toList != ([97] : List UInt8)) = false := bne_eq_false_iff_eq.mpr c27
                clear c27
                (first | rw [c27b0] | (simp only [i64_w, i32_w]; rw [c27b0]) | skip)
                have H' := Aside0.mk H
                clear H
                go_wp2
                go_meet
                case rel => exact ⟨_, (true), (by first | rfl | (simp; done) | (simp [*]; done)), H', ⟨by have := HJ6.out; first | omega | exact Nat.le_refl _⟩, ⟨by repeat (first | (with_reducible first | exact HB.out | apply below_alloc | apply pw_below_drewN | apply below_drew1) | exact HB.out)⟩⟩
              · rw [if_neg c27] at H
                have c27b0 : (a1.toList == ([97] : List UInt8)) = false := beq_eq_false_iff_ne.mpr c27
                have c27b1 : (a1.toList != ([97] : List UInt8)) = true := bne_iff_ne.mpr c27
                (first | rw [c27b0] | (simp only [i64_w, i32_w]; rw [c27b0]) | skip)
                have H' := Aside0.mk H
                clear H
                go_wp2
                go_meet
                case rel => exact ⟨_, ((a1.toList == ([65] : List UInt8))), (by first | rfl | (simp; done) | (simp [*]; done)), H', ⟨by have := HJ6.out; first | omega | exact Nat.le_refl _⟩, ⟨by repeat (first | (with_reducible first | exact HB.out | apply below_alloc | apply pw_below_drewN | apply below_drew1) | exact HB.out)⟩⟩
            case rest =>
              clear HC26
              try clear c1
              try clear p1
              try clear q1
              try clear hx1
              try clear qi1
              try clear c2
              try clear p2
              try clear c4
              try clear c4b0
              try clear c4b1
              try clear p6
              try clear c8
              try clear c8b0
              try clear c8b1
              try clear c9
              try clear c9b0
              try clear c9b1
              try clear c10
              try clear c10b0
              try clear c10b1
              try clear p11
              try clear q11
              try clear hx11
              try clear qi11
              try clear c12
              try clear c12b0
              try clear p13
              try clear q13
              try clear hx13
              try clear qi13
              try clear c14
              try clear c14b0
              try clear c14b1
              try clear c15
              try clear c15b0
              try clear c15b1
              try clear c16
              try clear c16b0
              try clear c16b1
              try clear p17
              try clear q17
              try clear hx17
              try clear qi17
              try clear c18
              try clear c18b0
              try clear p19
              try clear q19
              try clear hx19
              try clear qi19
              try clear c20
              try clear c21
              try clear c21b0
              try clear c22
              try clear c23
              try clear c23b0
              try clear c23b1
              try clear c27
              try clear c27b0
              try clear c27b1
              try clear p1
              try clear p11
              try clear p13
              try clear p17
              try clear p19
              try clear p2
              try clear q1
              try clear q11
              try clear q13
              try clear q17
              try clear q19
              obtain ⟨kq, x88_25, rfl, HA, HJ25, HB⟩ := hcut
              cases kq with
              | zero => exact absurd HA.out (by simp [stencilref13_Read.j2])
              | succ kj25 =>
                have H := HA.out
                clear HA
                simp only [stencilref13_Read.j2] at H
                by_cases c28 : x88_25 = true
                · subst c28
                  have H1 : (stencilref13_Read.l1 kj25 a0 a1 0 0) = some (r1, r2) := by rw [if_pos rfl] at H; exact H
                  clear H
                  have H := H1
                  clear H1
                  have H' := Aside0.mk H
                  clear H
                  go_wp2
                  go_loopg [8, 12] kj25 (fun kq v8 v12 w' => ∃ (x8_3 : Int) (x12_3 : Int), v8 = .int .i64 x8_3 ∧ v12 = .int .i64 x12_3 ∧ Aside0 (stencilref13_Read.l1 kq a0 a1 x8_3 x12_3 = some (r1, r2)) ∧ Aside0 (kq ≤ kj25) ∧ Aside0 (Below w.heap.size w w'))
                  case atStart => exact ⟨(0), (0), (by first | rfl | (simp; done) | (simp [*]; done)), (by first | rfl | (simp; done) | (simp [*]; done)), H', ⟨Nat.le_refl _⟩, ⟨by repeat (first | (with_reducible first | exact HB.out | apply below_alloc | apply pw_below_drewN | apply below_drew1) | exact HB.out)⟩⟩
                  case round =>
                    clear H'
                    try clear c1
                    try clear p1
                    try clear q1
                    try clear hx1
                    try clear qi1
                    try clear c2
                    try clear p2
                    try clear c4
                    try clear c4b0
                    try clear c4b1
                    try clear p6
                    try clear c8
                    try clear c8b0
                    try clear c8b1
                    try clear c9
                    try clear c9b0
                    try clear c9b1
                    try clear c10
                    try clear c10b0
                    try clear c10b1
                    try clear p11
                    try clear q11
                    try clear hx11
                    try clear qi11
                    try clear c12
                    try clear c12b0
                    try clear p13
                    try clear q13
                    try clear hx13
                    try clear qi13
                    try clear c14
                    try clear c14b0
                    try clear c14b1
                    try clear c15
                    try clear c15b0
                    try clear c15b1
                    try clear c16
                    try clear c16b0
                    try clear c16b1
                    try clear p17
                    try clear q17
                    try clear hx17
                    try clear qi17
                    try clear c18
                    try clear c18b0
                    try clear p19
                    try clear q19
                    try clear hx19
                    try clear qi19
                    try clear c20
                    try clear c21
                    try clear c21b0
                    try clear c22
                    try clear c23
                    try clear c23b0
                    try clear c23b1
                    try clear c27
                    try clear c27b0
                    try clear c27b1
                    try clear c28
                    try clear p1
                    try clear p11
                    try clear p13
                    try clear p17
                    try clear p19
                    try clear p2
                    try clear p6
                    try clear q1
                    try clear q11
                    try clear q13
                    try clear q17
                    try clear q19
                    obtain ⟨x8_3, x12_3, rfl, rfl, HA, HK3, HB⟩ := hrel
                    cases gk with
                    | zero => exact absurd HA.out (by simp [stencilref13_Read.l1])
                    | succ k3 =>
                      have H := HA.out
                      clear HA
                      simp only [stencilref13_Read.l1] at H
                      have HC29 := Aside0.mk H
                      clear H
                      go_upto_region 20 with (fail)
                      go_cut [102] (fun v102 wc => ∃ (kq : Nat) (x102_28 : Bool), v102 = .bool x102_28 ∧ Aside0 (stencilref13_Read.j4 kq a0 a1 x8_3 x12_3 x102_28 = some (r1, r2)) ∧ Aside0 (kq ≤ k3) ∧ Aside0 (Below w.heap.size w wc))
                      case first =>
                        have H := HC29.out
                        clear HC29
                        by_cases c30 : x12_3 < (a0.size : Int)
                        · rw [if_pos c30] at H
                          have c30b0 : decide (x12_3 < (a0.size : Int)) = true := decide_eq_true c30
                          clear c30
                          (first | rw [c30b0] | (simp only [i64_w, i32_w]; rw [c30b0]) | skip)
                          have H' := Aside0.mk H
                          clear H
                          go_wp2
                          go_meet
                          case rel => exact ⟨_, (decide (x8_3 ≤ 1000000000)), (by first | rfl | (simp; done) | (simp [*]; done)), H', ⟨by have := HJ6.out; have := HJ25.out; have := HK3.out; first | omega | exact Nat.le_refl _⟩, ⟨by repeat (first | (with_reducible first | exact HB.out | apply below_alloc | apply pw_below_drewN | apply below_drew1) | exact HB.out)⟩⟩
                        · rw [if_neg c30] at H
                          have c30b0 : decide (x12_3 < (a0.size : Int)) = false := decide_eq_false c30
                          clear c30
                          (first | rw [c30b0] | (simp only [i64_w, i32_w]; rw [c30b0]) | skip)
                          have H' := Aside0.mk H
                          clear H
                          go_wp2
                          go_meet
                          case rel => exact ⟨_, (false), (by first | rfl | (simp; done) | (simp [*]; done)), H', ⟨by have := HJ6.out; have := HJ25.out; have := HK3.out; first | omega | exact Nat.le_refl _⟩, ⟨by repeat (first | (with_reducible first | exact HB.out | apply below_alloc | apply pw_below_drewN | apply below_drew1) | exact HB.out)⟩⟩
                      case rest =>
                        clear HC29
                        try clear c1
                        try clear p1
                        try clear q1
                        try clear hx1
                        try clear qi1
                        try clear c2
                        try clear p2
                        try clear c3
                        try clear c4
                        try clear c4b0
                        try clear c4b1
                        try clear p6
                        try clear c8
                        try clear c8b0
                        try clear c8b1
                        try clear c9
                        try clear c9b0
                        try clear c9b1
                        try clear c10
                        try clear c10b0
                        try clear c10b1
                        try clear p11
                        try clear q11
                        try clear hx11
                        try clear qi11
                        try clear c12
                        try clear c12b0
                        try clear p13
                        try clear q13
                        try clear hx13
                        try clear qi13
                        try clear c14
                        try clear c14b0
                        try clear c14b1
                        try clear c15
                        try clear c15b0
                        try clear c15b1
                        try clear c16
                        try clear c16b0
                        try clear c16b1
                        try clear p17
                        try clear q17
                        try clear hx17
                        try clear qi17
                        try clear c18
                        try clear c18b0
                        try clear p19
                        try clear q19
                        try clear hx19
                        try clear qi19
                        try clear c20
                        try clear c21
                        try clear c21b0
                        try clear c22
                        try clear c23
                        try clear c23b0
                        try clear c23b1
                        try clear c27
                        try clear c27b0
                        try clear c27b1
                        try clear c28
                        try clear c30
                        try clear c30b0
                        try clear p1
                        try clear p11
                        try clear p13
                        try clear p17
                        try clear p19
                        try clear p2
                        try clear p6
                        try clear q1
                        try clear q11
                        try clear q13
                        try clear q17
                        try clear q19
                        obtain ⟨kq, x102_28, rfl, HA, HJ28, HB⟩ := hcut
                        cases kq with
                        | zero => exact absurd HA.out (by simp [stencilref13_Read.j4])
                        | succ kj28 =>
                          have H := HA.out
                          clear HA
                          simp only [stencilref13_Read.j4] at H
                          by_cases c31 : x102_28 = true
                          · subst c31
                            have H1 : (if 0 ≤ x12_3 then (if x12_3 < (a0.size : Int) then (if a1.toList = ([65] : List UInt8) then (if (wrap64 ((wrap64 ((wrap64 ((wrap64 (bt a0 x12_3)) - 97)) + 1)) + 32)) < 1 then (some (0, 5)) else (if (wrap64 ((wrap64 ((wrap64 ((wrap64 (bt a0 x12_3)) - 97)) + 1)) + 32)) > 26 then (some (0, 5)) else (stencilref13_Read.l1 kj28 a0 a1 (wrap64 ((wrap64 (x8_3 * 26)) + (wrap64 ((wrap64 ((wrap64 ((wrap64 (bt a0 x12_3)) - 97)) + 1)) + 32)))) (wrap64 (x12_3 + 1))))) else (if (wrap64 ((wrap64 ((wrap64 (bt a0 x12_3)) - 97)) + 1)) < 1 then (some (0, 5)) else (if (wrap64 ((wrap64 ((wrap64 (bt a0 x12_3)) - 97)) + 1)) > 26 then (some (0, 5)) else (stencilref13_Read.l1 kj28 a0 a1 (wrap64 ((wrap64 (x8_3 * 26)) + (wrap64 ((wrap64 ((wrap64 (bt a0 x12_3)) - 97)) + 1)))) (wrap64 (x12_3 + 1)))))) else (none)) else (none)) = some (r1, r2) := by rw [if_pos rfl] at H; exact H
                            clear H
                            have H := H1
                            clear H1
                            by_cases c32 : 0 ≤ x12_3
                            · rw [if_pos c32] at H
                              have c32b0 : decide (0 ≤ x12_3) = true := decide_eq_true c32
                              clear c32
                              by_cases c33 : x12_3 < (a0.size : Int)
                              · rw [if_pos c33] at H
                                have c33b0 : decide (x12_3 < (a0.size : Int)) = true := decide_eq_true c33
                                clear c33
                                by_cases c35 : a1.toList = ([65] : List UInt8)
                                · rw [if_pos c35] at H
                                  have c35b0 : (a1.toList == ([65] : List UInt8)) = true := beq_iff_eq.mpr c35
                                  have c35b1 : (a1.toList != ([65] : List UInt8)) = false := bne_eq_false_iff_eq.mpr c35
                                  clear c35
                                  by_cases c36 : (wrap64 ((wrap64 ((wrap64 ((wrap64 (bt a0 x12_3)) - 97)) + 1)) + 32)) < 1
                                  · rw [if_pos c36] at H
                                    have c36b0 : decide ((wrap64 ((wrap64 ((wrap64 ((wrap64 (bt a0 x12_3)) - 97)) + 1)) + 32)) < 1) = true := decide_eq_true c36
                                    clear c36
                                    simp only [Option.some.injEq, Prod.mk.injEq] at H
                                    obtain ⟨rfl, rfl⟩ := H
                                    have p34 : 0 ≤ (x12_3 : Int) := of_decide_eq_true (by first | (with_reducible assumption) | assumption)
                                    have q34 : x12_3 < (a0.size : Int) := of_decide_eq_true (by first | (with_reducible assumption) | assumption)
                                    have hx34 := bt_at a0 x12_3
                                    replace p34 := eq_true p34
                                    replace q34 := eq_true q34
                                    go_wp2
                                    go_ret2
                                    exact ⟨by first | rfl | (simp [errW_none, errW_some] <;> rfl) | (simp [*, errW_none, errW_some] <;> rfl), by repeat (first | (with_reducible first | exact HB.out | apply below_alloc | apply pw_below_drewN | apply below_drew1) | exact HB.out)⟩
                                  · rw [if_neg c36] at H
                                    have c36b0 : decide ((wrap64 ((wrap64 ((wrap64 ((wrap64 (bt a0 x12_3)) - 97)) + 1)) + 32)) < 1) = false := decide_eq_false c36
                                    clear c36
                                    by_cases c37 : (wrap64 ((wrap64 ((wrap64 ((wrap64 (bt a0 x12_3)) - 97)) + 1)) + 32)) > 26
                                    · rw [if_pos c37] at H
                                      have c37b0 : decide (26 < (wrap64 ((wrap64 ((wrap64 ((wrap64 (bt a0 x12_3)) - 97)) + 1)) + 32))) = true := decide_eq_true c37
                                      clear c37
                                      simp only [Option.some.injEq, Prod.mk.injEq] at H
                                      obtain ⟨rfl, rfl⟩ := H
                                      have p34 : 0 ≤ (x12_3 : Int) := of_decide_eq_true (by first | (with_reducible assumption) | assumption)
                                      have q34 : x12_3 < (a0.size : Int) := of_decide_eq_true (by first | (with_reducible assumption) | assumption)
                                      have hx34 := bt_at a0 x12_3
                                      replace p34 := eq_true p34
                                      replace q34 := eq_true q34
                                      go_wp2
                                      go_ret2
                                      exact ⟨by first | rfl | (simp [errW_none, errW_some] <;> rfl) | (simp [*, errW_none, errW_some] <;> rfl), by repeat (first | (with_reducible first | exact HB.out | apply below_alloc | apply pw_below_drewN | apply below_drew1) | exact HB.out)⟩
                                    · rw [if_neg c37] at H
                                      have c37b0 : decide (26 < (wrap64 ((wrap64 ((wrap64 ((wrap64 (bt a0 x12_3)) - 97)) + 1)) + 32))) = false := decide_eq_false c37
                                      clear c37
                                      have H' := Aside0.mk H
                                      clear H
                                      have p34 : 0 ≤ (x12_3 : Int) := of_decide_eq_true (by first | (with_reducible assumption) | assumption)
                                      have q34 : x12_3 < (a0.size : Int) := of_decide_eq_true (by first | (with_reducible assumption) | assumption)
                                      have hx34 := bt_at a0 x12_3
                                      replace p34 := eq_true p34
                                      replace q34 := eq_true q34
                                      go_wp2
                                      go_roundg kj28
                                      case measure => have := HJ6.out; have := HJ25.out; have := HK3.out; have := HJ28.out; omega
                                      case rel => exact ⟨(wrap64 ((wrap64 (x8_3 * 26)) + (wrap64 ((wrap64 ((wrap64 ((wrap64 (bt a0 x12_3)) - 97)) + 1)) + 32)))), (wrap64 (x12_3 + 1)), (by first | rfl | (simp; done) | (simp [*]; done)), (by first | rfl | (simp; done) | (simp [*]; done)), H', ⟨by have := HJ6.out; have := HJ25.out; have := HK3.out; have := HJ28.out; omega⟩, ⟨by repeat (first | (with_reducible first | exact HB.out | apply below_alloc | apply pw_below_drewN | apply below_drew1) | exact HB.out)⟩⟩
                                · rw [if_neg c35] at H
                                  have c35b0 : (a1.toList == ([65] : List UInt8)) = false := beq_eq_false_iff_ne.mpr c35
                                  have c35b1 : (a1.toList != ([65] : List UInt8)) = true := bne_iff_ne.mpr c35
                                  by_cases c38 : (wrap64 ((wrap64 ((wrap64 (bt a0 x12_3)) - 97)) + 1)) < 1
                                  · rw [if_pos c38] at H
                                    have c38b0 : decide ((wrap64 ((wrap64 ((wrap64 (bt a0 x12_3)) - 97)) + 1)) < 1) = true := decide_eq_true c38
                                    clear c38
                                    simp only [Option.some.injEq, Prod.mk.injEq] at H
                                    obtain ⟨rfl, rfl⟩ := H
                                    have p34 : 0 ≤ (x12_3 : Int) := of_decide_eq_true (by first | (with_reducible assumption) | assumption)
                                    have q34 : x12_3 < (a0.size : Int) := of_decide_eq_true (by first | (with_reducible assumption) | assumption)
                                    have hx34 := bt_at a0 x12_3
                                    replace p34 := eq_true p34
                                    replace q34 := eq_true q34
                                    go_wp2
                                    go_ret2
                                    exact ⟨by first | rfl | (simp [errW_none, errW_some] <;> rfl) | (simp [*, errW_none, errW_some] <;> rfl), by repeat (first | (with_reducible first | exact HB.out | apply below_alloc | apply pw_below_drewN | apply below_drew1) | exact HB.out)⟩
                                  · rw [if_neg c38] at H
                                    have c38b0 : decide ((wrap64 ((wrap64 ((wrap64 (bt a0 x12_3)) - 97)) + 1)) < 1) = false := decide_eq_false c38
                                    clear c38
                                    by_cases c39 : (wrap64 ((wrap64 ((wrap64 (bt a0 x12_3)) - 97)) + 1)) > 26
                                    · rw [if_pos c39] at H
                                      have c39b0 : decide (26 < (wrap64 ((wrap64 ((wrap64 (bt a0 x12_3)) - 97)) + 1))) = true := decide_eq_true c39
                                      clear c39
                                      simp only [Option.some.injEq, Prod.mk.injEq] at H
                                      obtain ⟨rfl, rfl⟩ := H
                                      have p34 : 0 ≤ (x12_3 : Int) := of_decide_eq_true (by first | (with_reducible assumption) | assumption)
                                      have q34 : x12_3 < (a0.size : Int) := of_decide_eq_true (by first | (with_reducible assumption) | assumption)
                                      have hx34 := bt_at a0 x12_3
                                      replace p34 := eq_true p34
                                      replace q34 := eq_true q34
                                      go_wp2
                                      go_ret2
                                      exact ⟨by first | rfl | (simp [errW_none, errW_some] <;> rfl) | (simp [*, errW_none, errW_some] <;> rfl), by repeat (first | (with_reducible first | exact HB.out | apply below_alloc | apply pw_below_drewN | apply below_drew1) | exact HB.out)⟩
                                    · rw [if_neg c39] at H
                                      have c39b0 : decide (26 < (wrap64 ((wrap64 ((wrap64 (bt a0 x12_3)) - 97)) + 1))) = false := decide_eq_false c39
                                      clear c39
                                      have H' := Aside0.mk H
                                      clear H
                                      have p34 : 0 ≤ (x12_3 : Int) := of_decide_eq_true (by first | (with_reducible assumption) | assumption)
                                      have q34 : x12_3 < (a0.size : Int) := of_decide_eq_true (by first | (with_reducible assumption) | assumption)
                                      have hx34 := bt_at a0 x12_3
                                      replace p34 := eq_true p34
                                      replace q34 := eq_true q34
                                      go_wp2
                                      go_roundg kj28
                                      case measure => have := HJ6.out; have := HJ25.out; have := HK3.out; have := HJ28.out; omega
                                      case rel => exact ⟨(wrap64 ((wrap64 (x8_3 * 26)) + (wrap64 ((wrap64 ((wrap64 (bt a0 x12_3)) - 97)) + 1)))), (wrap64 (x12_3 + 1)), (by first | rfl | (simp; done) | (simp [*]; done)), (by first | rfl | (simp; done) | (simp [*]; done)), H', ⟨by have := HJ6.out; have := HJ25.out; have := HK3.out; have := HJ28.out; omega⟩, ⟨by repeat (first | (with_reducible first | exact HB.out | apply below_alloc | apply pw_below_drewN | apply below_drew1) | exact HB.out)⟩⟩
                              · rw [if_neg c33] at H
                                exact absurd H (by simp)
                            · rw [if_neg c32] at H
                              exact absurd H (by simp)
                          · replace c31 := Bool.eq_false_iff.mpr c31
                            subst c31
                            have H1 : (stencilref13_Read.j7 kj28 a0 a1 x8_3) = some (r1, r2) := by rw [if_neg (show ¬ (false = true) by decide)] at H; exact H
                            clear H
                            have H := H1
                            clear H1
                            have H' := Aside0.mk H
                            clear H
                            go_wp2
                            go_meet
                            case rel => exact ⟨_, (x8_3), (by first | rfl | (simp; done) | (simp [*]; done)), H', ⟨by have := HJ6.out; have := HJ25.out; have := HK3.out; have := HJ28.out; first | omega | exact Nat.le_refl _⟩, ⟨by repeat (first | (with_reducible first | exact HB.out | apply below_alloc | apply pw_below_drewN | apply below_drew1) | exact HB.out)⟩⟩
                · replace c28 := Bool.eq_false_iff.mpr c28
                  subst c28
                  have H1 : (stencilref13_Read.l2 kj25 a0 a1 0 0) = some (r1, r2) := by rw [if_neg (show ¬ (false = true) by decide)] at H; exact H
                  clear H
                  have H := H1
                  clear H1
                  have H' := Aside0.mk H
                  clear H
                  go_wp2
                  go_loopg [8, 14] kj25 (fun kq v8 v14 w' => ∃ (x8_3 : Int) (x14_3 : Int), v8 = .int .i64 x8_3 ∧ v14 = .int .i64 x14_3 ∧ Aside0 (stencilref13_Read.l2 kq a0 a1 x8_3 x14_3 = some (r1, r2)) ∧ Aside0 (kq ≤ kj25) ∧ Aside0 (Below w.heap.size w w'))
                  case atStart => exact ⟨(0), (0), (by first | rfl | (simp; done) | (simp [*]; done)), (by first | rfl | (simp; done) | (simp [*]; done)), H', ⟨Nat.le_refl _⟩, ⟨by repeat (first | (with_reducible first | exact HB.out | apply below_alloc | apply pw_below_drewN | apply below_drew1) | exact HB.out)⟩⟩
                  case round =>
                    clear H'
                    try clear c1
                    try clear p1
                    try clear q1
                    try clear hx1
                    try clear qi1
                    try clear c2
                    try clear p2
                    try clear c3
                    try clear p3
                    try clear q3
                    try clear hx3
                    try clear c4
                    try clear c4b0
                    try clear c4b1
                    try clear p6
                    try clear c8
                    try clear c8b0
                    try clear c8b1
                    try clear c9
                    try clear c9b0
                    try clear c9b1
                    try clear c10
                    try clear c10b0
                    try clear c10b1
                    try clear p11
                    try clear q11
                    try clear hx11
                    try clear qi11
                    try clear c12
                    try clear c12b0
                    try clear p13
                    try clear q13
                    try clear hx13
                    try clear qi13
                    try clear c14
                    try clear c14b0
                    try clear c14b1
                    try clear c15
                    try clear c15b0
                    try clear c15b1
                    try clear c16
                    try clear c16b0
                    try clear c16b1
                    try clear p17
                    try clear q17
                    try clear hx17
                    try clear qi17
                    try clear c18
                    try clear c18b0
                    try clear p19
                    try clear q19
                    try clear hx19
                    try clear qi19
                    try clear c20
                    try clear c21
                    try clear c21b0
                    try clear c22
                    try clear c23
                    try clear c23b0
                    try clear c23b1
                    try clear c27
                    try clear c27b0
                    try clear c27b1
                    try clear c28
                    try clear c30
                    try clear c30b0
                    try clear c31
                    try clear c32
                    try clear c32b0
                    try clear c33
                    try clear c33b0
                    try clear p34
                    try clear q34
                    try clear hx34
                    try clear c35
                    try clear c35b0
                    try clear c35b1
                    try clear c36
                    try clear c36b0
                    try clear c37
                    try clear c37b0
                    try clear c38
                    try clear c38b0
                    try clear c39
                    try clear c39b0
                    try clear p1
                    try clear p11
                    try clear p13
                    try clear p17
                    try clear p19
                    try clear p2
                    try clear p34
                    try clear p6
                    try clear q1
                    try clear q11
                    try clear q13
                    try clear q17
                    try clear q19
                    try clear q34
                    obtain ⟨x8_3, x14_3, rfl, rfl, HA, HK3, HB⟩ := hrel
                    cases gk with
                    | zero => exact absurd HA.out (by simp [stencilref13_Read.l2])
                    | succ k3 =>
                      have H := HA.out
                      clear HA
                      simp only [stencilref13_Read.l2] at H
                      have HC40 := Aside0.mk H
                      clear H
                      go_upto_region 6 with (fail)
                      go_cut [32] (fun v32 wc => ∃ (kq : Nat) (x32_39 : Bool), v32 = .bool x32_39 ∧ Aside0 (stencilref13_Read.j6 kq a0 a1 x8_3 x14_3 x32_39 = some (r1, r2)) ∧ Aside0 (kq ≤ k3) ∧ Aside0 (Below w.heap.size w wc))
                      case first =>
                        have H := HC40.out
                        clear HC40
                        by_cases c41 : x14_3 < (a0.size : Int)
                        · rw [if_pos c41] at H
                          have c41b0 : decide (x14_3 < (a0.size : Int)) = true := decide_eq_true c41
                          clear c41
                          (first | rw [c41b0] | (simp only [i64_w, i32_w]; rw [c41b0]) | skip)
                          have H' := Aside0.mk H
                          clear H
                          go_wp2
                          go_meet
                          case rel => exact ⟨_, (decide (x8_3 ≤ 1000000000)), (by first | rfl | (simp; done) | (simp [*]; done)), H', ⟨by have := HJ6.out; have := HJ25.out; have := HK3.out; first | omega | exact Nat.le_refl _⟩, ⟨by repeat (first | (with_reducible first | exact HB.out | apply below_alloc | apply pw_below_drewN | apply below_drew1) | exact HB.out)⟩⟩
                        · rw [if_neg c41] at H
                          have c41b0 : decide (x14_3 < (a0.size : Int)) = false := decide_eq_false c41
                          clear c41
                          (first | rw [c41b0] | (simp only [i64_w, i32_w]; rw [c41b0]) | skip)
                          have H' := Aside0.mk H
                          clear H
                          go_wp2
                          go_meet
                          case rel => exact ⟨_, (false), (by first | rfl | (simp; done) | (simp [*]; done)), H', ⟨by have := HJ6.out; have := HJ25.out; have := HK3.out; first | omega | exact Nat.le_refl _⟩, ⟨by repeat (first | (with_reducible first | exact HB.out | apply below_alloc | apply pw_below_drewN | apply below_drew1) | exact HB.out)⟩⟩
                      case rest =>
                        clear HC40
                        try clear c1
                        try clear p1
                        try clear q1
                        try clear hx1
                        try clear qi1
                        try clear c2
                        try clear p2
                        try clear c3
                        try clear p3
                        try clear q3
                        try clear hx3
                        try clear c4
                        try clear c4b0
                        try clear c4b1
                        try clear p6
                        try clear c8
                        try clear c8b0
                        try clear c8b1
                        try clear c9
                        try clear c9b0
                        try clear c9b1
                        try clear c10
                        try clear c10b0
                        try clear c10b1
                        try clear p11
                        try clear q11
                        try clear hx11
                        try clear qi11
                        try clear c12
                        try clear c12b0
                        try clear p13
                        try clear q13
                        try clear hx13
                        try clear qi13
                        try clear c14
                        try clear c14b0
                        try clear c14b1
                        try clear c15
                        try clear c15b0
                        try clear c15b1
                        try clear c16
                        try clear c16b0
                        try clear c16b1
                        try clear p17
                        try clear q17
                        try clear hx17
                        try clear qi17
                        try clear c18
                        try clear c18b0
                        try clear p19
                        try clear q19
                        try clear hx19
                        try clear qi19
                        try clear c20
                        try clear c21
                        try clear c21b0
                        try clear c22
                        try clear c23
                        try clear c23b0
                        try clear c23b1
                        try clear c27
                        try clear c27b0
                        try clear c27b1
                        try clear c28
                        try clear c30
                        try clear c30b0
                        try clear c31
                        try clear c32
                        try clear c32b0
                        try clear c33
                        try clear c33b0
                        try clear p34
                        try clear q34
                        try clear hx34
                        try clear c35
                        try clear c35b0
                        try clear c35b1
                        try clear c36
                        try clear c36b0
                        try clear c37
                        try clear c37b0
                        try clear c38
                        try clear c38b0
                        try clear c39
                        try clear c39b0
                        try clear c41
                        try clear c41b0
                        try clear p1
                        try clear p11
                        try clear p13
                        try clear p17
                        try clear p19
                        try clear p2
                        try clear p3
                        try clear p34
                        try clear p6
                        try clear q1
                        try clear q11
                        try clear q13
                        try clear q17
                        try clear q19
                        try clear q3
                        try clear q34
                        obtain ⟨kq, x32_39, rfl, HA, HJ39, HB⟩ := hcut
                        cases kq with
                        | zero => exact absurd HA.out (by simp [stencilref13_Read.j6])
                        | succ kj39 =>
                          have H := HA.out
                          clear HA
                          simp only [stencilref13_Read.j6] at H
                          by_cases c42 : x32_39 = true
                          · subst c42
                            have H1 : (if 0 ≤ x14_3 then (if x14_3 < (a0.size : Int) then (if (bt a0 x14_3) < 48 then (some (0, 5)) else (if (bt a0 x14_3) > 57 then (some (0, 5)) else (stencilref13_Read.l2 kj39 a0 a1 (wrap64 ((wrap64 (x8_3 * 10)) + (((bt a0 x14_3) - 48) % 256))) (wrap64 (x14_3 + 1))))) else (none)) else (none)) = some (r1, r2) := by rw [if_pos rfl] at H; exact H
                            clear H
                            have H := H1
                            clear H1
                            by_cases c43 : 0 ≤ x14_3
                            · rw [if_pos c43] at H
                              have c43b0 : decide (0 ≤ x14_3) = true := decide_eq_true c43
                              clear c43
                              by_cases c44 : x14_3 < (a0.size : Int)
                              · rw [if_pos c44] at H
                                have c44b0 : decide (x14_3 < (a0.size : Int)) = true := decide_eq_true c44
                                clear c44
                                by_cases c46 : (bt a0 x14_3) < 48
                                · rw [if_pos c46] at H
                                  have c46b0 : decide ((bt a0 x14_3) < 48) = true := decide_eq_true c46
                                  clear c46
                                  simp only [Option.some.injEq, Prod.mk.injEq] at H
                                  obtain ⟨rfl, rfl⟩ := H
                                  have p45 : 0 ≤ (x14_3 : Int) := of_decide_eq_true (by first | (with_reducible assumption) | assumption)
                                  have q45 : x14_3 < (a0.size : Int) := of_decide_eq_true (by first | (with_reducible assumption) | assumption)
                                  have hx45 := bt_at a0 x14_3
                                  replace p45 := eq_true p45
                                  replace q45 := eq_true q45
                                  go_wp2
                                  go_ret2
                                  exact ⟨by first | rfl | (simp [errW_none, errW_some] <;> rfl) | (simp [*, errW_none, errW_some] <;> rfl), by repeat (first | (with_reducible first | exact HB.out | apply below_alloc | apply pw_below_drewN | apply below_drew1) | exact HB.out)⟩
                                · rw [if_neg c46] at H
                                  have c46b0 : decide ((bt a0 x14_3) < 48) = false := decide_eq_false c46
                                  clear c46
                                  by_cases c48 : (bt a0 x14_3) > 57
                                  · rw [if_pos c48] at H
                                    have c48b0 : decide (57 < (bt a0 x14_3)) = true := decide_eq_true c48
                                    clear c48
                                    simp only [Option.some.injEq, Prod.mk.injEq] at H
                                    obtain ⟨rfl, rfl⟩ := H
                                    have p45 : 0 ≤ (x14_3 : Int) := of_decide_eq_true (by first | (with_reducible assumption) | assumption)
                                    have q45 : x14_3 < (a0.size : Int) := of_decide_eq_true (by first | (with_reducible assumption) | assumption)
                                    have hx45 := bt_at a0 x14_3
                                    replace p45 := eq_true p45
                                    replace q45 := eq_true q45
                                    have p47 : 0 ≤ (x14_3 : Int) := of_decide_eq_true (by first | (with_reducible assumption) | assumption)
                                    have q47 : x14_3 < (a0.size : Int) := of_decide_eq_true (by first | (with_reducible assumption) | assumption)
                                    have hx47 := bt_at a0 x14_3
                                    replace p47 := eq_true p47
                                    replace q47 := eq_true q47
                                    go_wp2
                                    go_ret2
                                    exact ⟨by first | rfl | (simp [errW_none, errW_some] <;> rfl) | (simp [*, errW_none, errW_some] <;> rfl), by repeat (first | (with_reducible first | exact HB.out | apply below_alloc | apply pw_below_drewN | apply below_drew1) | exact HB.out)⟩
                                  · rw [if_neg c48] at H
                                    have c48b0 : decide (57 < (bt a0 x14_3)) = false := decide_eq_false c48
                                    clear c48
                                    have H' := Aside0.mk H
                                    clear H
                                    have p45 : 0 ≤ (x14_3 : Int) := of_decide_eq_true (by first | (with_reducible assumption) | assumption)
                                    have q45 : x14_3 < (a0.size : Int) := of_decide_eq_true (by first | (with_reducible assumption) | assumption)
                                    have hx45 := bt_at a0 x14_3
                                    replace p45 := eq_true p45
                                    replace q45 := eq_true q45
                                    have p47 : 0 ≤ (x14_3 : Int) := of_decide_eq_true (by first | (with_reducible assumption) | assumption)
                                    have q47 : x14_3 < (a0.size : Int) := of_decide_eq_true (by first | (with_reducible assumption) | assumption)
                                    have hx47 := bt_at a0 x14_3
                                    replace p47 := eq_true p47
                                    replace q47 := eq_true q47
                                    have p49 : 0 ≤ (x14_3 : Int) := of_decide_eq_true (by first | (with_reducible assumption) | assumption)
                                    have q49 : x14_3 < (a0.size : Int) := of_decide_eq_true (by first | (with_reducible assumption) | assumption)
                                    have hx49 := bt_at a0 x14_3
                                    replace p49 := eq_true p49
                                    replace q49 := eq_true q49
                                    go_wp2
                                    go_roundg kj39
                                    case measure => have := HJ6.out; have := HJ25.out; have := HK3.out; have := HJ39.out; omega
                                    case rel => exact ⟨(wrap64 ((wrap64 (x8_3 * 10)) + (((bt a0 x14_3) - 48) % 256))), (wrap64 (x14_3 + 1)), (by first | rfl | (simp; done) | (simp [*]; done)), (by first | rfl | (simp; done) | (simp [*]; done)), H', ⟨by have := HJ6.out; have := HJ25.out; have := HK3.out; have := HJ39.out; omega⟩, ⟨by repeat (first | (with_reducible first | exact HB.out | apply below_alloc | apply pw_below_drewN | apply below_drew1) | exact HB.out)⟩⟩
                              · rw [if_neg c44] at H
                                exact absurd H (by simp)
                            · rw [if_neg c43] at H
                              exact absurd H (by simp)
                          · replace c42 := Bool.eq_false_iff.mpr c42
                            subst c42
                            have H1 : (stencilref13_Read.j7 kj39 a0 a1 x8_3) = some (r1, r2) := by rw [if_neg (show ¬ (false = true) by decide)] at H; exact H
                            clear H
                            have H := H1
                            clear H1
                            have H' := Aside0.mk H
                            clear H
                            go_wp2
                            go_meet
                            case rel => exact ⟨_, (x8_3), (by first | rfl | (simp; done) | (simp [*]; done)), H', ⟨by have := HJ6.out; have := HJ25.out; have := HK3.out; have := HJ39.out; first | omega | exact Nat.le_refl _⟩, ⟨by repeat (first | (with_reducible first | exact HB.out | apply below_alloc | apply pw_below_drewN | apply below_drew1) | exact HB.out)⟩⟩
    case rest =>
      clear HC5
      try clear c1
      try clear p1
      try clear q1
      try clear hx1
      try clear qi1
      try clear c2
      try clear p2
      try clear c3
      try clear p3
      try clear q3
      try clear hx3
      try clear c4
      try clear c4b0
      try clear c4b1
      try clear p4
      try clear q4
      try clear hx4
      try clear p6
      try clear c8
      try clear c8b0
      try clear c8b1
      try clear c9
      try clear c9b0
      try clear c9b1
      try clear c10
      try clear c10b0
      try clear c10b1
      try clear p11
      try clear q11
      try clear hx11
      try clear qi11
      try clear c12
      try clear c12b0
      try clear p13
      try clear q13
      try clear hx13
      try clear qi13
      try clear c14
      try clear c14b0
      try clear c14b1
      try clear c15
      try clear c15b0
      try clear c15b1
      try clear c16
      try clear c16b0
      try clear c16b1
      try clear p17
      try clear q17
      try clear hx17
      try clear qi17
      try clear c18
      try clear c18b0
      try clear p19
      try clear q19
      try clear hx19
      try clear qi19
      try clear c20
      try clear c21
      try clear c21b0
      try clear c22
      try clear c23
      try clear c23b0
      try clear c23b1
      try clear c27
      try clear c27b0
      try clear c27b1
      try clear c28
      try clear c30
      try clear c30b0
      try clear c31
      try clear c32
      try clear c32b0
      try clear c33
      try clear c33b0
      try clear p34
      try clear q34
      try clear hx34
      try clear c35
      try clear c35b0
      try clear c35b1
      try clear c36
      try clear c36b0
      try clear c37
      try clear c37b0
      try clear c38
      try clear c38b0
      try clear c39
      try clear c39b0
      try clear c41
      try clear c41b0
      try clear c42
      try clear c43
      try clear c43b0
      try clear c44
      try clear c44b0
      try clear p45
      try clear q45
      try clear hx45
      try clear c46
      try clear c46b0
      try clear p47
      try clear q47
      try clear hx47
      try clear c48
      try clear c48b0
      try clear p49
      try clear q49
      try clear hx49
      try clear p1
      try clear p11
      try clear p13
      try clear p17
      try clear p19
      try clear p2
      try clear p3
      try clear p34
      try clear p45
      try clear p47
      try clear p49
      try clear p6
      try clear q1
      try clear q11
      try clear q13
      try clear q17
      try clear q19
      try clear q3
      try clear q34
      try clear q45
      try clear q47
      try clear q49
      obtain ⟨kq, x8_4, rfl, HA, HJ4, HB⟩ := hcut
      cases kq with
      | zero => exact absurd HA.out (by simp [stencilref13_Read.j7])
      | succ kj4 =>
        have H := HA.out
        clear HA
        simp only [stencilref13_Read.j7] at H
        have HC50 := Aside0.mk H
        clear H
        go_upto_region 28 with (fail)
        go_cut [130] (fun v130 wc => ∃ (kq : Nat) (x130_49 : Bool), v130 = .bool x130_49 ∧ Aside0 (stencilref13_Read.j8 kq a0 a1 x8_4 x130_49 = some (r1, r2)) ∧ Aside0 (kq ≤ kj4) ∧ Aside0 (Below w.heap.size w wc))
        case first =>
          have H := HC50.out
          clear HC50
          by_cases c51 : x8_4 < 1
          · rw [if_pos c51] at H
            have c51b0 : decide (x8_4 < 1) = true := decide_eq_true c51
            clear c51
            (first | rw [c51b0] | (simp only [i64_w, i32_w]; rw [c51b0]) | skip)
            have H' := Aside0.mk H
            clear H
            go_wp2
            go_meet
            case rel => exact ⟨_, (true), (by first | rfl | (simp; done) | (simp [*]; done)), H', ⟨by have := HJ4.out; first | omega | exact Nat.le_refl _⟩, ⟨by repeat (first | (with_reducible first | exact HB.out | apply below_alloc | apply pw_below_drewN | apply below_drew1) | exact HB.out)⟩⟩
          · rw [if_neg c51] at H
            have c51b0 : decide (x8_4 < 1) = false := decide_eq_false c51
            clear c51
            (first | rw [c51b0] | (simp only [i64_w, i32_w]; rw [c51b0]) | skip)
            have H' := Aside0.mk H
            clear H
            go_wp2
            go_meet
            case rel => exact ⟨_, (decide (x8_4 > 1000000000)), (by first | rfl | (simp; done) | (simp [*]; done)), H', ⟨by have := HJ4.out; first | omega | exact Nat.le_refl _⟩, ⟨by repeat (first | (with_reducible first | exact HB.out | apply below_alloc | apply pw_below_drewN | apply below_drew1) | exact HB.out)⟩⟩
        case rest =>
          clear HC50
          try clear c1
          try clear p1
          try clear q1
          try clear hx1
          try clear qi1
          try clear c2
          try clear p2
          try clear c3
          try clear p3
          try clear q3
          try clear hx3
          try clear c4
          try clear c4b0
          try clear c4b1
          try clear p4
          try clear q4
          try clear hx4
          try clear c5
          try clear p6
          try clear c8
          try clear c8b0
          try clear c8b1
          try clear c9
          try clear c9b0
          try clear c9b1
          try clear c10
          try clear c10b0
          try clear c10b1
          try clear p11
          try clear q11
          try clear hx11
          try clear qi11
          try clear c12
          try clear c12b0
          try clear p13
          try clear q13
          try clear hx13
          try clear qi13
          try clear c14
          try clear c14b0
          try clear c14b1
          try clear c15
          try clear c15b0
          try clear c15b1
          try clear c16
          try clear c16b0
          try clear c16b1
          try clear p17
          try clear q17
          try clear hx17
          try clear qi17
          try clear c18
          try clear c18b0
          try clear p19
          try clear q19
          try clear hx19
          try clear qi19
          try clear c20
          try clear c21
          try clear c21b0
          try clear c22
          try clear c23
          try clear c23b0
          try clear c23b1
          try clear c27
          try clear c27b0
          try clear c27b1
          try clear c28
          try clear c30
          try clear c30b0
          try clear c31
          try clear c32
          try clear c32b0
          try clear c33
          try clear c33b0
          try clear p34
          try clear q34
          try clear hx34
          try clear c35
          try clear c35b0
          try clear c35b1
          try clear c36
          try clear c36b0
          try clear c37
          try clear c37b0
          try clear c38
          try clear c38b0
          try clear c39
          try clear c39b0
          try clear c41
          try clear c41b0
          try clear c42
          try clear c43
          try clear c43b0
          try clear c44
          try clear c44b0
          try clear p45
          try clear q45
          try clear hx45
          try clear c46
          try clear c46b0
          try clear p47
          try clear q47
          try clear hx47
          try clear c48
          try clear c48b0
          try clear p49
          try clear q49
          try clear hx49
          try clear c51
          try clear c51b0
          try clear p1
          try clear p11
          try clear p13
          try clear p17
          try clear p19
          try clear p2
          try clear p3
          try clear p34
          try clear p4
          try clear p45
          try clear p47
          try clear p49
          try clear p6
          try clear q1
          try clear q11
          try clear q13
          try clear q17
          try clear q19
          try clear q3
          try clear q34
          try clear q4
          try clear q45
          try clear q47
          try clear q49
          obtain ⟨kq, x130_49, rfl, HA, HJ49, HB⟩ := hcut
          cases kq with
          | zero => exact absurd HA.out (by simp [stencilref13_Read.j8])
          | succ kj49 =>
            have H := HA.out
            clear HA
            simp only [stencilref13_Read.j8] at H
            by_cases c52 : x130_49 = true
            · subst c52
              have H1 : (some (0, 5)) = some (r1, r2) := by rw [if_pos rfl] at H; exact H
              clear H
              have H := H1
              clear H1
              simp only [Option.some.injEq, Prod.mk.injEq] at H
              obtain ⟨rfl, rfl⟩ := H
              go_wp2
              go_ret2
              exact ⟨by first | rfl | (simp [errW_none, errW_some] <;> rfl) | (simp [*, errW_none, errW_some] <;> rfl), by repeat (first | (with_reducible first | exact HB.out | apply below_alloc | apply pw_below_drewN | apply below_drew1) | exact HB.out)⟩
            · replace c52 := Bool.eq_false_iff.mpr c52
              subst c52
              have H1 : ((stencilref13_Format.f kj49 x8_4 a1).bind fun bt158 => (if bt158.1.toList = a0.toList then (some (x8_4, 0)) else (some (0, 5)))) = some (r1, r2) := by rw [if_neg (show ¬ (false = true) by decide)] at H; exact H
              clear H
              have H := H1
              clear H1
              replace H := Option.bind_eq_some_iff.mp H
              obtain ⟨⟨t158, t159⟩, A530, H⟩ := H
              replace H : (if t158.toList = a0.toList then (some (x8_4, 0)) else (some (0, 5))) = some (r1, r2) := H
              have A53 := Aside0.mk A530
              clear A530
              by_cases c54 : t158.toList = a0.toList
              · rw [if_pos c54] at H
                have c54b0 : (t158.toList == a0.toList) = true := beq_iff_eq.mpr c54
                have c54b1 : (t158.toList != a0.toList) = false := bne_eq_false_iff_eq.mpr c54
                clear c54
                simp only [Option.some.injEq, Prod.mk.injEq] at H
                obtain ⟨rfl, rfl⟩ := H
                go_wp2_with (first | ((with_reducible refine gate_callee (f := 20) rfl ?_); refine goesL_ (some 134) rfl rfl Tryd.func20 (by kernel_rfl) rfl #[.int .i64 x8_4, .string a1] rfl (by (try simp only [List.map_toArray, List.map_cons, List.map_nil]); first | done | rfl | (simp only [List.length_drop, List.length_take]; rfl)) ?_; (with_reducible refine (stencilref13_Format.calls kj49 x8_4 a1 t158 t159 _ ?side1 A53.out).mono ?_); (case side1 => first | exact HLD | exact Laid.below HLD (by repeat (first | (with_reducible first | exact HB.out | apply below_alloc | apply pw_below_drewN | apply below_drew1) | exact HB.out))); rintro e w55 ⟨rfl, hb⟩; refine ⟨_, rfl, ?_⟩; have n0_ := Aside0.mk (below_step (by repeat (first | (with_reducible first | exact HB.out | apply below_alloc | apply pw_below_drewN | apply below_drew1) | exact HB.out)) hb); clear HB; have HB := n0_; clear n0_; (try clear hb); (try clear hb2); (try clear hk); (try clear hi)))
                go_ret2
                exact ⟨by first | rfl | (simp [errW_none, errW_some] <;> rfl) | (simp [*, errW_none, errW_some] <;> rfl), by repeat (first | (with_reducible first | exact HB.out | apply below_alloc | apply pw_below_drewN | apply below_drew1) | exact HB.out)⟩
              · rw [if_neg c54] at H
                have c54b0 : (t158.toList == a0.toList) = false := beq_eq_false_iff_ne.mpr c54
                have c54b1 : (t158.toList != a0.toList) = true := bne_iff_ne.mpr c54
                simp only [Option.some.injEq, Prod.mk.injEq] at H
                obtain ⟨rfl, rfl⟩ := H
                go_wp2_with (first | ((with_reducible refine gate_callee (f := 20) rfl ?_); refine goesL_ (some 134) rfl rfl Tryd.func20 (by kernel_rfl) rfl #[.int .i64 x8_4, .string a1] rfl (by (try simp only [List.map_toArray, List.map_cons, List.map_nil]); first | done | rfl | (simp only [List.length_drop, List.length_take]; rfl)) ?_; (with_reducible refine (stencilref13_Format.calls kj49 x8_4 a1 t158 t159 _ ?side1 A53.out).mono ?_); (case side1 => first | exact HLD | exact Laid.below HLD (by repeat (first | (with_reducible first | exact HB.out | apply below_alloc | apply pw_below_drewN | apply below_drew1) | exact HB.out))); rintro e w56 ⟨rfl, hb⟩; refine ⟨_, rfl, ?_⟩; have n0_ := Aside0.mk (below_step (by repeat (first | (with_reducible first | exact HB.out | apply below_alloc | apply pw_below_drewN | apply below_drew1) | exact HB.out)) hb); clear HB; have HB := n0_; clear n0_; (try clear hb); (try clear hb2); (try clear hk); (try clear hi)))
                go_ret2
                exact ⟨by first | rfl | (simp [errW_none, errW_some] <;> rfl) | (simp [*, errW_none, errW_some] <;> rfl), by repeat (first | (with_reducible first | exact HB.out | apply below_alloc | apply pw_below_drewN | apply below_drew1) | exact HB.out)⟩
  · rw [if_neg c4] at H
    have c4b0 : (t155 == 0) = false := beq_eq_false_iff_ne.mpr c4
    have c4b1 : (t155 != 0) = true := bne_iff_ne.mpr c4
    simp only [Option.some.injEq, Prod.mk.injEq] at H
    obtain ⟨rfl, rfl⟩ := H
    go_enter Tryd.func22, Tryd.ntmps22
    go_wp2_with (first | ((with_reducible refine gate_callee (f := 20) rfl ?_); refine goesL_ (some 19) rfl rfl Tryd.func20 (by kernel_rfl) rfl #[.int .i64 1, .string a1] rfl (by (try simp only [List.map_toArray, List.map_cons, List.map_nil]); first | done | rfl | (simp only [List.length_drop, List.length_take]; rfl)) ?_; (with_reducible refine (stencilref13_Format.calls k 1 a1 t154 t155 _ ?side1 A3.out).mono ?_); (case side1 => first | exact HLD | exact Laid.below HLD (by repeat (first | (with_reducible first | exact HB.out | apply below_alloc | apply pw_below_drewN | apply below_drew1) | exact HB.out))); rintro e w57 ⟨rfl, hb⟩; refine ⟨_, rfl, ?_⟩; have n0_ := Aside0.mk (below_step (by repeat (first | (with_reducible first | exact HB.out | apply below_alloc | apply pw_below_drewN | apply below_drew1) | exact HB.out)) hb); clear HB; have HB := n0_; clear n0_; (try clear hb); (try clear hb2); (try clear hk); (try clear hi)))
    go_ret2
    exact ⟨by first | rfl | (simp [errW_none, errW_some] <;> rfl) | (simp [*, errW_none, errW_some] <;> rfl), by repeat (first | (with_reducible first | exact HB.out | apply below_alloc | apply pw_below_drewN | apply below_drew1) | exact HB.out)⟩

end Go.Proofs.YthedigbdkjcpfaaDoor.Print
