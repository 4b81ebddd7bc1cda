-- Laid by xprint.py (ours), out of the seat's translation; Lean checks it.
import Derived.Test.YthedigbdkjcpfaaGreatDoorPrint0
import Derived.Test.YthedigbdkjcpfaaGreatDoorPrintf48
import Derived.Test.YthedigbdkjcpfaaGreatDoorPrintlibreplaceall
import Derived.Test.YthedigbdkjcpfaaGreatDoorPrintlibcut
import Derived.Test.YthedigbdkjcpfaaGreatDoorPrintlibindex
import Derived.Test.YthedigbdkjcpfaaGreatDoorPrintlibtrimleftfunc
import Derived.Test.YthedigbdkjcpfaaGreatDoorPrintlibtrimleft
import Derived.Test.YthedigbdkjcpfaaGreatDoorPrintlibcontainsany
import Derived.Test.YthedigbdkjcpfaaGreatDoorPrintf103
import Derived.Test.YthedigbdkjcpfaaGreatDoorPrintlibcount
namespace Go.Proofs.YthedigbdkjcpfaaGreatDoor.Print
open Go.RowKit Go.Proofs.YthedigbdkjcpfaaGreatDoorW.PrintWords Go.Proofs.YthedigbdkjcpfaaGreatDoorW.PrintLast Go.Proofs.YthedigbdkjcpfaaGreatDoorW.PrintMore
attribute [local go_sem] max2_int min2_int max_two min_two max_three min_three max_four min_four   -- for this text's walks alone
open Go.Proofs.YthedigbdkjcpfaaGreatDoor.Plain
set_option linter.unusedVariables false
set_option linter.unusedSimpArgs false

/-! ### xnum_pictured: function 36 -/
mutual
def xnum_pictured.j0 : Nat → ByteArray → ByteArray → Bool → ByteArray → ByteArray → ByteArray → ByteArray → Option (ByteArray × ByteArray × ByteArray × ByteArray × Bool)
  | 0, _, _, _, _, _, _, _ => none
  | k + 1, x0, x6, x39, x157000, x157001, x157002, x157003 => if x39 = true then (some (x157000, x157001, x157002, x157003, false)) else ((strings_Contains.f x6 (⟨#[48, 35]⟩ : ByteArray)).bind fun t166 => (if t166 = true then (xnum_pictured.j1 k x0 t166 x157000 x157001 x157002 x157003) else ((strings_Contains.f x157002 (⟨#[35, 48]⟩ : ByteArray)).bind fun t167 => (if t167 = true then (xnum_pictured.j1 k x0 t167 x157000 x157001 x157002 x157003) else ((strings_Contains.f x157001 (⟨#[44, 44]⟩ : ByteArray)).bind fun t168 => (xnum_pictured.j1 k x0 t168 x157000 x157001 x157002 x157003))))))
def xnum_pictured.j1 : Nat → ByteArray → Bool → ByteArray → ByteArray → ByteArray → ByteArray → Option (ByteArray × ByteArray × ByteArray × ByteArray × Bool)
  | 0, _, _, _, _, _, _ => none
  | k + 1, x0, x50, x157000, x157001, x157002, x157003 => if x50 = true then (some (x157000, x157001, x157002, x157003, false)) else ((strings_HasPrefix.f x157001 (⟨#[44]⟩ : ByteArray)).bind fun t169 => (if t169 = true then (some (x157000, x157001, x157002, x157003, false)) else ((strings_HasSuffix.f x157001 (⟨#[44]⟩ : ByteArray)).bind fun t170 => (if t170 = true then (some (x157000, x157001, x157002, x157003, false)) else ((strings_Count.f x0 (⟨#[37]⟩ : ByteArray)).bind fun t171 => (some (x157000, x157001, x157002, x157003, decide (t171 ≤ 1))))))))
end
def xnum_pictured.f (k : Nat) (a0 : ByteArray) : Option (ByteArray × ByteArray × ByteArray × ByteArray × Bool) := (strings_TrimLeftFunc.f a0 67).bind fun t157 => (if 0 ≤ (wrap64 ((a0.size : Int) - (t157.size : Int))) then (if (wrap64 ((a0.size : Int) - (t157.size : Int))) ≤ (a0.size : Int) then ((strings_TrimLeft.f t157 (⟨#[35, 48, 44, 46]⟩ : ByteArray)).bind fun t158 => (if 0 ≤ (wrap64 ((t157.size : Int) - (t158.size : Int))) then (if (wrap64 ((t157.size : Int) - (t158.size : Int))) ≤ (t157.size : Int) then ((strings_Cut.f (t157.extract 0 ((wrap64 ((t157.size : Int) - (t158.size : Int))) : Int).toNat) (⟨#[46]⟩ : ByteArray)).bind fun bt159 => ((strings_ReplaceAll.f bt159.1 (⟨#[44]⟩ : ByteArray) (⟨#[]⟩ : ByteArray)).bind fun t162 => ((strings_ContainsAny.f t158 (⟨#[35, 48, 44, 46]⟩ : ByteArray)).bind fun t163 => (if t163 = true then (xnum_pictured.j0 k a0 t162 t163 (a0.extract 0 ((wrap64 ((a0.size : Int) - (t157.size : Int))) : Int).toNat) bt159.1 bt159.2.1 t158) else ((strings_ContainsAny.f (t157.extract 0 ((wrap64 ((t157.size : Int) - (t158.size : Int))) : Int).toNat) (⟨#[35, 48]⟩ : ByteArray)).bind fun t164 => (if t164 = true then ((strings_ContainsAny.f bt159.2.1 (⟨#[44, 46]⟩ : ByteArray)).bind fun t165 => (xnum_pictured.j0 k a0 t162 t165 (a0.extract 0 ((wrap64 ((a0.size : Int) - (t157.size : Int))) : Int).toNat) bt159.1 bt159.2.1 t158)) else (xnum_pictured.j0 k a0 t162 (!t164) (a0.extract 0 ((wrap64 ((a0.size : Int) - (t157.size : Int))) : Int).toNat) bt159.1 bt159.2.1 t158))))))) else (none)) else (none))) else (none)) else (none))
theorem xnum_pictured.mono_l : ∀ k, (∀ y0 y1 y2 y3 y4 y5 y6, LeO (xnum_pictured.j0 k y0 y1 y2 y3 y4 y5 y6) (xnum_pictured.j0 (k + 1) y0 y1 y2 y3 y4 y5 y6)) ∧ (∀ y0 y1 y2 y3 y4 y5, LeO (xnum_pictured.j1 k y0 y1 y2 y3 y4 y5) (xnum_pictured.j1 (k + 1) y0 y1 y2 y3 y4 y5))
  | 0 => ⟨fun _ _ _ _ _ _ _ r h => by simp [xnum_pictured.j0] at h, fun _ _ _ _ _ _ r h => by simp [xnum_pictured.j1] at h⟩
  | k + 1 => by
    obtain ⟨ih0, ih1⟩ := xnum_pictured.mono_l k
    refine ⟨?_, ?_⟩
    · intro y0 y1 y2 y3 y4 y5 y6
      unfold xnum_pictured.j0
      repeat' first
      | (with_reducible exact ih0 _ _ _ _ _ _ _)
      | (with_reducible exact ih1 _ _ _ _ _ _)
      | (with_reducible exact LeO.refl _)
      | (with_reducible exact LeO.none _)
      | (with_reducible refine LeO.ite ?_ ?_)
      | (with_reducible refine LeO.bind ?_ (fun _ => ?_))
      | exact ih0 _ _ _ _ _ _ _
      | exact ih1 _ _ _ _ _ _
      | exact LeO.none _
      | refine LeO.ite ?_ ?_
      | refine LeO.bind ?_ (fun _ => ?_)
    · intro y0 y1 y2 y3 y4 y5
      unfold xnum_pictured.j1
      repeat' first
      | (with_reducible exact ih0 _ _ _ _ _ _ _)
      | (with_reducible exact ih1 _ _ _ _ _ _)
      | (with_reducible exact LeO.refl _)
      | (with_reducible exact LeO.none _)
      | (with_reducible refine LeO.ite ?_ ?_)
      | (with_reducible refine LeO.bind ?_ (fun _ => ?_))
      | exact ih0 _ _ _ _ _ _ _
      | exact ih1 _ _ _ _ _ _
      | exact LeO.none _
      | refine LeO.ite ?_ ?_
      | refine LeO.bind ?_ (fun _ => ?_)
theorem xnum_pictured.mono : ∀ a0 k, LeO (xnum_pictured.f k a0) (xnum_pictured.f (k + 1) a0) := by
  intro a0 k
  obtain ⟨ih0, ih1⟩ := xnum_pictured.mono_l k
  unfold xnum_pictured.f
  repeat' first
      | (with_reducible exact ih0 _ _ _ _ _ _ _)
      | (with_reducible exact ih1 _ _ _ _ _ _)
      | (with_reducible exact LeO.refl _)
      | (with_reducible exact LeO.none _)
      | (with_reducible refine LeO.ite ?_ ?_)
      | (with_reducible refine LeO.bind ?_ (fun _ => ?_))
      | exact ih0 _ _ _ _ _ _ _
      | exact ih1 _ _ _ _ _ _
      | exact LeO.none _
      | refine LeO.ite ?_ ?_
      | refine LeO.bind ?_ (fun _ => ?_)
set_option maxHeartbeats 8000000 in
set_option maxRecDepth 100000 in
theorem xnum_pictured.calls (k : Nat) (a0 : ByteArray) (r1 : ByteArray) (r2 : ByteArray) (r3 : ByteArray) (r4 : ByteArray) (r5 : Bool) (w : World) (HLD : Laid w) (h : xnum_pictured.f k a0 = some (r1, r2, r3, r4, r5)) :
    Calls Tryz.prog 36 #[.string a0] w fun e w' => e = .returned (.tuple #[.agg #[.string r1, .string r2, .string r3, .string r4], .bool r5]) ∧ Below w.heap.size w w' := by
  have hu69 := Tryz.underlying69
  have HB := Aside0.mk (Below.refl w.heap.size w)
  have H : ((strings_TrimLeftFunc.f a0 67).bind fun t157 => (if 0 ≤ (wrap64 ((a0.size : Int) - (t157.size : Int))) then (if (wrap64 ((a0.size : Int) - (t157.size : Int))) ≤ (a0.size : Int) then ((strings_TrimLeft.f t157 (⟨#[35, 48, 44, 46]⟩ : ByteArray)).bind fun t158 => (if 0 ≤ (wrap64 ((t157.size : Int) - (t158.size : Int))) then (if (wrap64 ((t157.size : Int) - (t158.size : Int))) ≤ (t157.size : Int) then ((strings_Cut.f (t157.extract 0 ((wrap64 ((t157.size : Int) - (t158.size : Int))) : Int).toNat) (⟨#[46]⟩ : ByteArray)).bind fun bt159 => ((strings_ReplaceAll.f bt159.1 (⟨#[44]⟩ : ByteArray) (⟨#[]⟩ : ByteArray)).bind fun t162 => ((strings_ContainsAny.f t158 (⟨#[35, 48, 44, 46]⟩ : ByteArray)).bind fun t163 => (if t163 = true then (xnum_pictured.j0 k a0 t162 t163 (a0.extract 0 ((wrap64 ((a0.size : Int) - (t157.size : Int))) : Int).toNat) bt159.1 bt159.2.1 t158) else ((strings_ContainsAny.f (t157.extract 0 ((wrap64 ((t157.size : Int) - (t158.size : Int))) : Int).toNat) (⟨#[35, 48]⟩ : ByteArray)).bind fun t164 => (if t164 = true then ((strings_ContainsAny.f bt159.2.1 (⟨#[44, 46]⟩ : ByteArray)).bind fun t165 => (xnum_pictured.j0 k a0 t162 t165 (a0.extract 0 ((wrap64 ((a0.size : Int) - (t157.size : Int))) : Int).toNat) bt159.1 bt159.2.1 t158)) else (xnum_pictured.j0 k a0 t162 (!t164) (a0.extract 0 ((wrap64 ((a0.size : Int) - (t157.size : Int))) : Int).toNat) bt159.1 bt159.2.1 t158))))))) else (none)) else (none))) else (none)) else (none))) = some (r1, r2, r3, r4, r5) := h
  clear h
  replace H := Option.bind_eq_some_iff.mp H
  obtain ⟨t157, A20, H⟩ := H
  replace H : (if 0 ≤ (wrap64 ((a0.size : Int) - (t157.size : Int))) then (if (wrap64 ((a0.size : Int) - (t157.size : Int))) ≤ (a0.size : Int) then ((strings_TrimLeft.f t157 (⟨#[35, 48, 44, 46]⟩ : ByteArray)).bind fun t158 => (if 0 ≤ (wrap64 ((t157.size : Int) - (t158.size : Int))) then (if (wrap64 ((t157.size : Int) - (t158.size : Int))) ≤ (t157.size : Int) then ((strings_Cut.f (t157.extract 0 ((wrap64 ((t157.size : Int) - (t158.size : Int))) : Int).toNat) (⟨#[46]⟩ : ByteArray)).bind fun bt159 => ((strings_ReplaceAll.f bt159.1 (⟨#[44]⟩ : ByteArray) (⟨#[]⟩ : ByteArray)).bind fun t162 => ((strings_ContainsAny.f t158 (⟨#[35, 48, 44, 46]⟩ : ByteArray)).bind fun t163 => (if t163 = true then (xnum_pictured.j0 k a0 t162 t163 (a0.extract 0 ((wrap64 ((a0.size : Int) - (t157.size : Int))) : Int).toNat) bt159.1 bt159.2.1 t158) else ((strings_ContainsAny.f (t157.extract 0 ((wrap64 ((t157.size : Int) - (t158.size : Int))) : Int).toNat) (⟨#[35, 48]⟩ : ByteArray)).bind fun t164 => (if t164 = true then ((strings_ContainsAny.f bt159.2.1 (⟨#[44, 46]⟩ : ByteArray)).bind fun t165 => (xnum_pictured.j0 k a0 t162 t165 (a0.extract 0 ((wrap64 ((a0.size : Int) - (t157.size : Int))) : Int).toNat) bt159.1 bt159.2.1 t158)) else (xnum_pictured.j0 k a0 t162 (!t164) (a0.extract 0 ((wrap64 ((a0.size : Int) - (t157.size : Int))) : Int).toNat) bt159.1 bt159.2.1 t158))))))) else (none)) else (none))) else (none)) else (none)) = some (r1, r2, r3, r4, r5) := H
  have A2 := Aside0.mk A20
  clear A20
  obtain ⟨ji3, hji3⟩ : ∃ j_ : Int, (wrap64 ((a0.size : Int) - (t157.size : Int))) = j_ := ⟨_, rfl⟩
  replace H : (if 0 ≤ (ji3) then (if (ji3) ≤ (a0.size : Int) then ((strings_TrimLeft.f t157 (⟨#[35, 48, 44, 46]⟩ : ByteArray)).bind fun t158 => (if 0 ≤ (wrap64 ((t157.size : Int) - (t158.size : Int))) then (if (wrap64 ((t157.size : Int) - (t158.size : Int))) ≤ (t157.size : Int) then ((strings_Cut.f (t157.extract 0 ((wrap64 ((t157.size : Int) - (t158.size : Int))) : Int).toNat) (⟨#[46]⟩ : ByteArray)).bind fun bt159 => ((strings_ReplaceAll.f bt159.1 (⟨#[44]⟩ : ByteArray) (⟨#[]⟩ : ByteArray)).bind fun t162 => ((strings_ContainsAny.f t158 (⟨#[35, 48, 44, 46]⟩ : ByteArray)).bind fun t163 => (if t163 = true then (xnum_pictured.j0 k a0 t162 t163 (a0.extract 0 ((ji3) : Int).toNat) bt159.1 bt159.2.1 t158) else ((strings_ContainsAny.f (t157.extract 0 ((wrap64 ((t157.size : Int) - (t158.size : Int))) : Int).toNat) (⟨#[35, 48]⟩ : ByteArray)).bind fun t164 => (if t164 = true then ((strings_ContainsAny.f bt159.2.1 (⟨#[44, 46]⟩ : ByteArray)).bind fun t165 => (xnum_pictured.j0 k a0 t162 t165 (a0.extract 0 ((ji3) : Int).toNat) bt159.1 bt159.2.1 t158)) else (xnum_pictured.j0 k a0 t162 (!t164) (a0.extract 0 ((ji3) : Int).toNat) bt159.1 bt159.2.1 t158))))))) else (none)) else (none))) else (none)) else (none)) = some (r1, r2, r3, r4, r5) := by first | (rw [hji3] at H; exact H) | (simp only [hji3] at H ⊢; exact H)
  (try rw [hji3] at A2)
  have hji3w : (IntKind.i64.wrap ((a0.size : Int) - (t157.size : Int))) = ji3 := (i64_w _).trans hji3
  by_cases c4 : 0 ≤ (ji3)
  · rw [if_pos c4] at H
    have c4b0 := eq_true c4
    have c4b1 : decide (0 ≤ (ji3)) = true := decide_eq_true c4
    clear c4
    by_cases c5 : (ji3) ≤ (a0.size : Int)
    · rw [if_pos c5] at H
      have c5b0 := eq_true c5
      have c5b1 : decide ((ji3) ≤ (a0.size : Int)) = true := decide_eq_true c5
      clear c5
      replace H := Option.bind_eq_some_iff.mp H
      obtain ⟨t158, A60, H⟩ := H
      replace H : (if 0 ≤ (wrap64 ((t157.size : Int) - (t158.size : Int))) then (if (wrap64 ((t157.size : Int) - (t158.size : Int))) ≤ (t157.size : Int) then ((strings_Cut.f (t157.extract 0 ((wrap64 ((t157.size : Int) - (t158.size : Int))) : Int).toNat) (⟨#[46]⟩ : ByteArray)).bind fun bt159 => ((strings_ReplaceAll.f bt159.1 (⟨#[44]⟩ : ByteArray) (⟨#[]⟩ : ByteArray)).bind fun t162 => ((strings_ContainsAny.f t158 (⟨#[35, 48, 44, 46]⟩ : ByteArray)).bind fun t163 => (if t163 = true then (xnum_pictured.j0 k a0 t162 t163 (a0.extract 0 ((ji3) : Int).toNat) bt159.1 bt159.2.1 t158) else ((strings_ContainsAny.f (t157.extract 0 ((wrap64 ((t157.size : Int) - (t158.size : Int))) : Int).toNat) (⟨#[35, 48]⟩ : ByteArray)).bind fun t164 => (if t164 = true then ((strings_ContainsAny.f bt159.2.1 (⟨#[44, 46]⟩ : ByteArray)).bind fun t165 => (xnum_pictured.j0 k a0 t162 t165 (a0.extract 0 ((ji3) : Int).toNat) bt159.1 bt159.2.1 t158)) else (xnum_pictured.j0 k a0 t162 (!t164) (a0.extract 0 ((ji3) : Int).toNat) bt159.1 bt159.2.1 t158))))))) else (none)) else (none)) = some (r1, r2, r3, r4, r5) := H
      have A6 := Aside0.mk A60
      clear A60
      obtain ⟨ji7, hji7⟩ : ∃ j_ : Int, (wrap64 ((t157.size : Int) - (t158.size : Int))) = j_ := ⟨_, rfl⟩
      replace H : (if 0 ≤ (ji7) then (if (ji7) ≤ (t157.size : Int) then ((strings_Cut.f (t157.extract 0 ((ji7) : Int).toNat) (⟨#[46]⟩ : ByteArray)).bind fun bt159 => ((strings_ReplaceAll.f bt159.1 (⟨#[44]⟩ : ByteArray) (⟨#[]⟩ : ByteArray)).bind fun t162 => ((strings_ContainsAny.f t158 (⟨#[35, 48, 44, 46]⟩ : ByteArray)).bind fun t163 => (if t163 = true then (xnum_pictured.j0 k a0 t162 t163 (a0.extract 0 ((ji3) : Int).toNat) bt159.1 bt159.2.1 t158) else ((strings_ContainsAny.f (t157.extract 0 ((ji7) : Int).toNat) (⟨#[35, 48]⟩ : ByteArray)).bind fun t164 => (if t164 = true then ((strings_ContainsAny.f bt159.2.1 (⟨#[44, 46]⟩ : ByteArray)).bind fun t165 => (xnum_pictured.j0 k a0 t162 t165 (a0.extract 0 ((ji3) : Int).toNat) bt159.1 bt159.2.1 t158)) else (xnum_pictured.j0 k a0 t162 (!t164) (a0.extract 0 ((ji3) : Int).toNat) bt159.1 bt159.2.1 t158))))))) else (none)) else (none)) = some (r1, r2, r3, r4, r5) := by first | (rw [hji7] at H; exact H) | (simp only [hji7] at H ⊢; exact H)
      (try rw [hji7] at A2)
      (try rw [hji7] at A6)
      have hji7w : (IntKind.i64.wrap ((t157.size : Int) - (t158.size : Int))) = ji7 := (i64_w _).trans hji7
      by_cases c8 : 0 ≤ (ji7)
      · rw [if_pos c8] at H
        have c8b0 := eq_true c8
        have c8b1 : decide (0 ≤ (ji7)) = true := decide_eq_true c8
        clear c8
        by_cases c9 : (ji7) ≤ (t157.size : Int)
        · rw [if_pos c9] at H
          have c9b0 := eq_true c9
          have c9b1 : decide ((ji7) ≤ (t157.size : Int)) = true := decide_eq_true c9
          clear c9
          replace H := Option.bind_eq_some_iff.mp H
          obtain ⟨⟨t159, t160, t161⟩, A100, H⟩ := H
          replace H : ((strings_ReplaceAll.f t159 (⟨#[44]⟩ : ByteArray) (⟨#[]⟩ : ByteArray)).bind fun t162 => ((strings_ContainsAny.f t158 (⟨#[35, 48, 44, 46]⟩ : ByteArray)).bind fun t163 => (if t163 = true then (xnum_pictured.j0 k a0 t162 t163 (a0.extract 0 ((ji3) : Int).toNat) t159 t160 t158) else ((strings_ContainsAny.f (t157.extract 0 ((ji7) : Int).toNat) (⟨#[35, 48]⟩ : ByteArray)).bind fun t164 => (if t164 = true then ((strings_ContainsAny.f t160 (⟨#[44, 46]⟩ : ByteArray)).bind fun t165 => (xnum_pictured.j0 k a0 t162 t165 (a0.extract 0 ((ji3) : Int).toNat) t159 t160 t158)) else (xnum_pictured.j0 k a0 t162 (!t164) (a0.extract 0 ((ji3) : Int).toNat) t159 t160 t158)))))) = some (r1, r2, r3, r4, r5) := H
          have A10 := Aside0.mk A100
          clear A100
          replace H := Option.bind_eq_some_iff.mp H
          obtain ⟨t162, A110, H⟩ := H
          replace H : ((strings_ContainsAny.f t158 (⟨#[35, 48, 44, 46]⟩ : ByteArray)).bind fun t163 => (if t163 = true then (xnum_pictured.j0 k a0 t162 t163 (a0.extract 0 ((ji3) : Int).toNat) t159 t160 t158) else ((strings_ContainsAny.f (t157.extract 0 ((ji7) : Int).toNat) (⟨#[35, 48]⟩ : ByteArray)).bind fun t164 => (if t164 = true then ((strings_ContainsAny.f t160 (⟨#[44, 46]⟩ : ByteArray)).bind fun t165 => (xnum_pictured.j0 k a0 t162 t165 (a0.extract 0 ((ji3) : Int).toNat) t159 t160 t158)) else (xnum_pictured.j0 k a0 t162 (!t164) (a0.extract 0 ((ji3) : Int).toNat) t159 t160 t158))))) = some (r1, r2, r3, r4, r5) := H
          have A11 := Aside0.mk A110
          clear A110
          replace H := Option.bind_eq_some_iff.mp H
          obtain ⟨t163, A120, H⟩ := H
          replace H : (if t163 = true then (xnum_pictured.j0 k a0 t162 t163 (a0.extract 0 ((ji3) : Int).toNat) t159 t160 t158) else ((strings_ContainsAny.f (t157.extract 0 ((ji7) : Int).toNat) (⟨#[35, 48]⟩ : ByteArray)).bind fun t164 => (if t164 = true then ((strings_ContainsAny.f t160 (⟨#[44, 46]⟩ : ByteArray)).bind fun t165 => (xnum_pictured.j0 k a0 t162 t165 (a0.extract 0 ((ji3) : Int).toNat) t159 t160 t158)) else (xnum_pictured.j0 k a0 t162 (!t164) (a0.extract 0 ((ji3) : Int).toNat) t159 t160 t158)))) = some (r1, r2, r3, r4, r5) := H
          have A12 := Aside0.mk A120
          clear A120
          have HC13 := Aside0.mk H
          clear H
          go_enter Tryz.func36, Tryz.ntmps36
          go_upto_if 39 with (first | ((with_reducible refine gate_dst (N := 2) rfl ?_); refine box_event ?hg (N := 2) ?hd (cs := #[.string (⟨#[]⟩ : ByteArray), .string (⟨#[]⟩ : ByteArray), .string (⟨#[]⟩ : ByteArray), .string (⟨#[]⟩ : ByteArray)]) (t := 69) ?hr ?_; (case hd => rfl); (case hg => rfl); (case hr => first | (go_simp; done) | (go_simp; rfl)); intro gb156 hg w14 hbox hb; have n0_ := Aside0.mk (below_step (by repeat (first | (with_reducible first | exact HB.out | apply below_alloc | apply pw_below_drewN | apply below_drew1) | exact HB.out)) hb); have n1_ := Aside0.mk (hbox); have n2_ := Aside0.mk ((by rw [hg]; exact (below_size (by repeat (first | (with_reducible first | exact HB.out | apply below_alloc | apply pw_below_drewN | apply below_drew1) | exact HB.out))) : w.heap.size ≤ gb156)); have n3_ := Aside0.mk ((by rw [hg]; exact (below_size (by repeat (first | (with_reducible first | exact HB.out | apply below_alloc | apply pw_below_drewN | apply below_drew1) | exact HB.out))) : w.heap.size ≤ gb156)); clear HB; have HB := n0_; have BK156 := n1_; have GW156 := n2_; have GE156 := n3_; clear n0_ n1_ n2_ n3_; clear hb hbox hg) | ((with_reducible refine gate_callee (f := 66) rfl ?_); refine goesL_ (some 8) rfl rfl Tryz.func66 (by kernel_rfl) rfl #[.string a0, .func (.func 67) #[] #[]] rfl (by (try simp only [List.map_toArray, List.map_cons, List.map_nil]); first | done | rfl | (simp only [List.length_drop, List.length_take]; rfl)) ?_; (with_reducible refine (strings_TrimLeftFunc.calls a0 67 t157 _ ?side1 A2.out).mono ?_); (case side1 => first | exact HLD | exact Laid.below HLD (by repeat (first | (with_reducible first | exact HB.out | apply below_alloc | apply pw_below_drewN | apply below_drew1 | refine below_set ?_ GE156.out) | exact HB.out))); rintro e w15 ⟨rfl, hb⟩; refine ⟨_, rfl, ?_⟩; have n0_ := Aside0.mk (blk_below (g := gb156) (o := .cells #[.string (⟨#[]⟩ : ByteArray), .string (⟨#[]⟩ : ByteArray), .string (⟨#[]⟩ : ByteArray), .string (⟨#[]⟩ : ByteArray)] 69 (0, 0)) (by (with_reducible repeat (first | refine blk_drewN ?_ _ | refine blk_drew ?_ | refine blk_alloc ?_ _)); exact BK156.out) hb); have n1_ := Aside0.mk (below_step (by repeat (first | (with_reducible first | exact HB.out | apply below_alloc | apply pw_below_drewN | apply below_drew1 | refine below_set ?_ GE156.out) | exact HB.out)) hb); clear BK156; clear HB; have BK156 := n0_; have HB := n1_; clear n0_ n1_; (try clear hb); (try clear hb2); (try clear hk); (try clear hi); have hcz16_0 : w15.cell? ⟨gb156, 0, none⟩ = some (.string (⟨#[]⟩ : ByteArray)) := (blk_cell BK156.out 0).trans rfl; have hcz16_1 : w15.cell? ⟨gb156, 1, none⟩ = some (.string (⟨#[]⟩ : ByteArray)) := (blk_cell BK156.out 1).trans rfl; have hcz16_2 : w15.cell? ⟨gb156, 2, none⟩ = some (.string (⟨#[]⟩ : ByteArray)) := (blk_cell BK156.out 2).trans rfl; have hcz16_3 : w15.cell? ⟨gb156, 3, none⟩ = some (.string (⟨#[]⟩ : ByteArray)) := (blk_cell BK156.out 3).trans rfl; have hfz16_0 := blk_frozen BK156.out 0; have hfz16_1 := blk_frozen BK156.out 1; have hfz16_2 := blk_frozen BK156.out 2; have hfz16_3 := blk_frozen BK156.out 3) | ((with_reducible refine gate_callee (f := 69) rfl ?_); refine goesL_ (some 18) rfl rfl Tryz.func69 (by kernel_rfl) rfl #[.string t157, .string (⟨#[35, 48, 44, 46]⟩ : ByteArray)] rfl (by (try simp only [List.map_toArray, List.map_cons, List.map_nil]); first | done | rfl | (simp only [List.length_drop, List.length_take]; rfl)) ?_; (with_reducible refine (strings_TrimLeft.calls t157 (⟨#[35, 48, 44, 46]⟩ : ByteArray) t158 _ ?side1 A6.out).mono ?_); (case side1 => first | exact HLD | exact Laid.below HLD (by repeat (first | (with_reducible first | exact HB.out | apply below_alloc | apply pw_below_drewN | apply below_drew1 | refine below_set ?_ GE156.out) | exact HB.out))); rintro e w17 ⟨rfl, hb⟩; refine ⟨_, rfl, ?_⟩; have n0_ := Aside0.mk (blk_below (g := gb156) (o := .cells #[.string (a0.extract 0 ((ji3) : Int).toNat), .string (⟨#[]⟩ : ByteArray), .string (⟨#[]⟩ : ByteArray), .string (⟨#[]⟩ : ByteArray)] 69 (0, 0)) (by (with_reducible repeat (first | refine blk_drewN ?_ _ | refine blk_drew ?_ | refine blk_alloc ?_ _)); refine blk_put (cs := #[.string (⟨#[]⟩ : ByteArray), .string (⟨#[]⟩ : ByteArray), .string (⟨#[]⟩ : ByteArray), .string (⟨#[]⟩ : ByteArray)]) ?_ 0 _ rfl; (with_reducible repeat (first | refine blk_drewN ?_ _ | refine blk_drew ?_ | refine blk_alloc ?_ _)); exact BK156.out) hb); have n1_ := Aside0.mk (below_step (by repeat (first | (with_reducible first | exact HB.out | apply below_alloc | apply pw_below_drewN | apply below_drew1 | refine below_set ?_ GE156.out) | exact HB.out)) hb); clear BK156; clear HB; have BK156 := n0_; have HB := n1_; clear n0_ n1_; (try clear hb); (try clear hb2); (try clear hk); (try clear hi); have hcz18_0 : w17.cell? ⟨gb156, 0, none⟩ = some (.string (a0.extract 0 ((ji3) : Int).toNat)) := (blk_cell BK156.out 0).trans rfl; have hcz18_1 : w17.cell? ⟨gb156, 1, none⟩ = some (.string (⟨#[]⟩ : ByteArray)) := (blk_cell BK156.out 1).trans rfl; have hcz18_2 : w17.cell? ⟨gb156, 2, none⟩ = some (.string (⟨#[]⟩ : ByteArray)) := (blk_cell BK156.out 2).trans rfl; have hcz18_3 : w17.cell? ⟨gb156, 3, none⟩ = some (.string (⟨#[]⟩ : ByteArray)) := (blk_cell BK156.out 3).trans rfl; have hfz18_0 := blk_frozen BK156.out 0; have hfz18_1 := blk_frozen BK156.out 1; have hfz18_2 := blk_frozen BK156.out 2; have hfz18_3 := blk_frozen BK156.out 3) | ((with_reducible refine gate_callee (f := 27) rfl ?_); refine goesL_ (some 30) rfl rfl Tryz.func27 (by kernel_rfl) rfl #[.string (t157.extract 0 ((ji7) : Int).toNat), .string (⟨#[46]⟩ : ByteArray)] rfl (by (try simp only [List.map_toArray, List.map_cons, List.map_nil]); first | done | (simp only [hji7]; rfl) | rfl | (simp only [List.length_drop, List.length_take]; rfl)) ?_; (with_reducible refine (strings_Cut.calls (t157.extract 0 ((ji7) : Int).toNat) (⟨#[46]⟩ : ByteArray) t159 t160 t161 _ ?side1 A10.out).mono ?_); (case side1 => first | exact HLD | exact Laid.below HLD (by repeat (first | (with_reducible first | exact HB.out | apply below_alloc | apply pw_below_drewN | apply below_drew1 | refine below_set ?_ GE156.out) | exact HB.out))); rintro e w' ⟨rfl, ⟨nd, rfl⟩⟩; refine ⟨_, rfl, ?_⟩) | ((with_reducible refine gate_callee (f := 55) rfl ?_); refine goesL_ (some 38) rfl rfl Tryz.func55 (by kernel_rfl) rfl #[.string t159, .string (⟨#[44]⟩ : ByteArray), .string (⟨#[]⟩ : ByteArray)] rfl (by (try simp only [List.map_toArray, List.map_cons, List.map_nil]); first | done | rfl | (simp only [List.length_drop, List.length_take]; rfl)) ?_; (with_reducible refine (strings_ReplaceAll.calls t159 (⟨#[44]⟩ : ByteArray) (⟨#[]⟩ : ByteArray) t162 _ ?side1 A11.out).mono ?_); (case side1 => first | exact HLD | exact Laid.below HLD (by repeat (first | (with_reducible first | exact HB.out | apply below_alloc | apply pw_below_drewN | apply below_drew1 | refine below_set ?_ GE156.out) | exact HB.out))); rintro e w19 ⟨rfl, hb⟩; refine ⟨_, rfl, ?_⟩; have n0_ := Aside0.mk (blk_below (g := gb156) (o := .cells #[.string (a0.extract 0 ((ji3) : Int).toNat), .string t159, .string t160, .string t158] 69 (0, 0)) (by (with_reducible repeat (first | refine blk_drewN ?_ _ | refine blk_drew ?_ | refine blk_alloc ?_ _)); refine blk_put (cs := #[.string (a0.extract 0 ((ji3) : Int).toNat), .string t159, .string (⟨#[]⟩ : ByteArray), .string t158]) ?_ 2 _ rfl; (with_reducible repeat (first | refine blk_drewN ?_ _ | refine blk_drew ?_ | refine blk_alloc ?_ _)); refine blk_put (cs := #[.string (a0.extract 0 ((ji3) : Int).toNat), .string (⟨#[]⟩ : ByteArray), .string (⟨#[]⟩ : ByteArray), .string t158]) ?_ 1 _ rfl; (with_reducible repeat (first | refine blk_drewN ?_ _ | refine blk_drew ?_ | refine blk_alloc ?_ _)); refine blk_put (cs := #[.string (a0.extract 0 ((ji3) : Int).toNat), .string (⟨#[]⟩ : ByteArray), .string (⟨#[]⟩ : ByteArray), .string (⟨#[]⟩ : ByteArray)]) ?_ 3 _ rfl; (with_reducible repeat (first | refine blk_drewN ?_ _ | refine blk_drew ?_ | refine blk_alloc ?_ _)); exact BK156.out) hb); have n1_ := Aside0.mk (below_step (by repeat (first | (with_reducible first | exact HB.out | apply below_alloc | apply pw_below_drewN | apply below_drew1 | refine below_set ?_ GE156.out) | exact HB.out)) hb); clear BK156; clear HB; have BK156 := n0_; have HB := n1_; clear n0_ n1_; (try clear hb); (try clear hb2); (try clear hk); (try clear hi); have hcz20_0 : w19.cell? ⟨gb156, 0, none⟩ = some (.string (a0.extract 0 ((ji3) : Int).toNat)) := (blk_cell BK156.out 0).trans rfl; have hcz20_1 : w19.cell? ⟨gb156, 1, none⟩ = some (.string t159) := (blk_cell BK156.out 1).trans rfl; have hcz20_2 : w19.cell? ⟨gb156, 2, none⟩ = some (.string t160) := (blk_cell BK156.out 2).trans rfl; have hcz20_3 : w19.cell? ⟨gb156, 3, none⟩ = some (.string t158) := (blk_cell BK156.out 3).trans rfl; have hfz20_0 := blk_frozen BK156.out 0; have hfz20_1 := blk_frozen BK156.out 1; have hfz20_2 := blk_frozen BK156.out 2; have hfz20_3 := blk_frozen BK156.out 3) | ((with_reducible refine gate_callee (f := 70) rfl ?_); refine goesL_ (some 42) rfl rfl Tryz.func70 (by kernel_rfl) rfl #[.string t158, .string (⟨#[35, 48, 44, 46]⟩ : ByteArray)] rfl (by (try simp only [List.map_toArray, List.map_cons, List.map_nil]); first | done | rfl | (simp only [List.length_drop, List.length_take]; rfl)) ?_; (with_reducible refine (strings_ContainsAny.calls t158 (⟨#[35, 48, 44, 46]⟩ : ByteArray) t163 _ ?side1 A12.out).mono ?_); (case side1 => first | exact HLD | exact Laid.below HLD (by repeat (first | (with_reducible first | exact HB.out | apply below_alloc | apply pw_below_drewN | apply below_drew1 | refine below_set ?_ GE156.out) | exact HB.out))); rintro e w21 ⟨rfl, hb⟩; refine ⟨_, rfl, ?_⟩; have n0_ := Aside0.mk (blk_below (g := gb156) (o := .cells #[.string (a0.extract 0 ((ji3) : Int).toNat), .string t159, .string t160, .string t158] 69 (0, 0)) (by (with_reducible repeat (first | refine blk_drewN ?_ _ | refine blk_drew ?_ | refine blk_alloc ?_ _)); exact BK156.out) hb); have n1_ := Aside0.mk (below_step (by repeat (first | (with_reducible first | exact HB.out | apply below_alloc | apply pw_below_drewN | apply below_drew1 | refine below_set ?_ GE156.out) | exact HB.out)) hb); clear BK156; clear HB; have BK156 := n0_; have HB := n1_; clear n0_ n1_; (try clear hb); (try clear hb2); (try clear hk); (try clear hi)))
          (try simp only [Act.put, List.setIfInBounds_toArray, List.set_cons_zero, List.set_cons_succ])
          go_cut [39] (fun v39 wc => ∃ (kq : Nat) (x39_12 : Bool), v39 = .bool x39_12 ∧ Aside0 (xnum_pictured.j0 kq a0 t162 x39_12 (a0.extract 0 ((ji3) : Int).toNat) t159 t160 t158 = some (r1, r2, r3, r4, r5)) ∧ Aside0 (kq ≤ k) ∧ Aside0 (wc.heap[gb156]? = some (.cells #[.string (a0.extract 0 ((ji3) : Int).toNat), .string t159, .string t160, .string t158] 69 (0, 0))) ∧ Aside0 (Below w.heap.size w wc))
          case first =>
            have H := HC13.out
            clear HC13
            by_cases c22 : t163 = true
            · subst c22
              have H1 : (xnum_pictured.j0 k a0 t162 true (a0.extract 0 ((ji3) : Int).toNat) t159 t160 t158) = some (r1, r2, r3, r4, r5) := by rw [if_pos rfl] at H; exact H
              clear H
              have H := H1
              clear H1
              have H' := Aside0.mk H
              clear H
              go_wp2
              go_meet
              case rel => exact ⟨_, (true), (by first | rfl | (simp; done) | (simp [*]; done)), H', ⟨by first | omega | exact Nat.le_refl _⟩, ⟨by (with_reducible repeat (first | refine blk_drewN ?_ _ | refine blk_drew ?_ | refine blk_alloc ?_ _)); exact BK156.out⟩, ⟨by repeat (first | (with_reducible first | exact HB.out | apply below_alloc | apply pw_below_drewN | apply below_drew1 | refine below_set ?_ GE156.out) | exact HB.out)⟩⟩
            · replace c22 := Bool.eq_false_iff.mpr c22
              subst c22
              have H1 : ((strings_ContainsAny.f (t157.extract 0 ((ji7) : Int).toNat) (⟨#[35, 48]⟩ : ByteArray)).bind fun t164 => (if t164 = true then ((strings_ContainsAny.f t160 (⟨#[44, 46]⟩ : ByteArray)).bind fun t165 => (xnum_pictured.j0 k a0 t162 t165 (a0.extract 0 ((ji3) : Int).toNat) t159 t160 t158)) else (xnum_pictured.j0 k a0 t162 (!t164) (a0.extract 0 ((ji3) : Int).toNat) t159 t160 t158))) = some (r1, r2, r3, r4, r5) := by rw [if_neg (show ¬ (false = true) by decide)] at H; exact H
              clear H
              have H := H1
              clear H1
              replace H := Option.bind_eq_some_iff.mp H
              obtain ⟨t164, A230, H⟩ := H
              replace H : (if t164 = true then ((strings_ContainsAny.f t160 (⟨#[44, 46]⟩ : ByteArray)).bind fun t165 => (xnum_pictured.j0 k a0 t162 t165 (a0.extract 0 ((ji3) : Int).toNat) t159 t160 t158)) else (xnum_pictured.j0 k a0 t162 (!t164) (a0.extract 0 ((ji3) : Int).toNat) t159 t160 t158)) = some (r1, r2, r3, r4, r5) := H
              have A23 := Aside0.mk A230
              clear A230
              by_cases c24 : t164 = true
              · subst c24
                have H1 : ((strings_ContainsAny.f t160 (⟨#[44, 46]⟩ : ByteArray)).bind fun t165 => (xnum_pictured.j0 k a0 t162 t165 (a0.extract 0 ((ji3) : Int).toNat) t159 t160 t158)) = some (r1, r2, r3, r4, r5) := by rw [if_pos rfl] at H; exact H
                clear H
                have H := H1
                clear H1
                replace H := Option.bind_eq_some_iff.mp H
                obtain ⟨t165, A250, H⟩ := H
                replace H : (xnum_pictured.j0 k a0 t162 t165 (a0.extract 0 ((ji3) : Int).toNat) t159 t160 t158) = some (r1, r2, r3, r4, r5) := H
                have A25 := Aside0.mk A250
                clear A250
                have H' := Aside0.mk H
                clear H
                go_wp2_with (first | ((with_reducible refine gate_callee (f := 70) rfl ?_); refine goesL_ (some 44) rfl rfl Tryz.func70 (by kernel_rfl) rfl #[.string (t157.extract 0 ((ji7) : Int).toNat), .string (⟨#[35, 48]⟩ : ByteArray)] rfl (by (try simp only [List.map_toArray, List.map_cons, List.map_nil]); first | done | (simp only [hji7]; rfl) | rfl | (simp only [List.length_drop, List.length_take]; rfl)) ?_; (with_reducible refine (strings_ContainsAny.calls (t157.extract 0 ((ji7) : Int).toNat) (⟨#[35, 48]⟩ : ByteArray) true _ ?side1 A23.out).mono ?_); (case side1 => first | exact HLD | exact Laid.below HLD (by repeat (first | (with_reducible first | exact HB.out | apply below_alloc | apply pw_below_drewN | apply below_drew1 | refine below_set ?_ GE156.out) | exact HB.out))); rintro e w26 ⟨rfl, hb⟩; refine ⟨_, rfl, ?_⟩; have n0_ := Aside0.mk (blk_below (g := gb156) (o := .cells #[.string (a0.extract 0 ((ji3) : Int).toNat), .string t159, .string t160, .string t158] 69 (0, 0)) (by (with_reducible repeat (first | refine blk_drewN ?_ _ | refine blk_drew ?_ | refine blk_alloc ?_ _)); exact BK156.out) hb); have n1_ := Aside0.mk (below_step (by repeat (first | (with_reducible first | exact HB.out | apply below_alloc | apply pw_below_drewN | apply below_drew1 | refine below_set ?_ GE156.out) | exact HB.out)) hb); clear BK156; clear HB; have BK156 := n0_; have HB := n1_; clear n0_ n1_; (try clear hb); (try clear hb2); (try clear hk); (try clear hi); have hcz27_0 : w26.cell? ⟨gb156, 0, none⟩ = some (.string (a0.extract 0 ((ji3) : Int).toNat)) := (blk_cell BK156.out 0).trans rfl; have hcz27_1 : w26.cell? ⟨gb156, 1, none⟩ = some (.string t159) := (blk_cell BK156.out 1).trans rfl; have hcz27_2 : w26.cell? ⟨gb156, 2, none⟩ = some (.string t160) := (blk_cell BK156.out 2).trans rfl; have hcz27_3 : w26.cell? ⟨gb156, 3, none⟩ = some (.string t158) := (blk_cell BK156.out 3).trans rfl; have hfz27_0 := blk_frozen BK156.out 0; have hfz27_1 := blk_frozen BK156.out 1; have hfz27_2 := blk_frozen BK156.out 2; have hfz27_3 := blk_frozen BK156.out 3) | ((with_reducible refine gate_callee (f := 70) rfl ?_); refine goesL_ (some 48) rfl rfl Tryz.func70 (by kernel_rfl) rfl #[.string t160, .string (⟨#[44, 46]⟩ : ByteArray)] rfl (by (try simp only [List.map_toArray, List.map_cons, List.map_nil]); first | done | rfl | (simp only [List.length_drop, List.length_take]; rfl)) ?_; (with_reducible refine (strings_ContainsAny.calls t160 (⟨#[44, 46]⟩ : ByteArray) t165 _ ?side1 A25.out).mono ?_); (case side1 => first | exact HLD | exact Laid.below HLD (by repeat (first | (with_reducible first | exact HB.out | apply below_alloc | apply pw_below_drewN | apply below_drew1 | refine below_set ?_ GE156.out) | exact HB.out))); rintro e w28 ⟨rfl, hb⟩; refine ⟨_, rfl, ?_⟩; have n0_ := Aside0.mk (blk_below (g := gb156) (o := .cells #[.string (a0.extract 0 ((ji3) : Int).toNat), .string t159, .string t160, .string t158] 69 (0, 0)) (by (with_reducible repeat (first | refine blk_drewN ?_ _ | refine blk_drew ?_ | refine blk_alloc ?_ _)); exact BK156.out) hb); have n1_ := Aside0.mk (below_step (by repeat (first | (with_reducible first | exact HB.out | apply below_alloc | apply pw_below_drewN | apply below_drew1 | refine below_set ?_ GE156.out) | exact HB.out)) hb); clear BK156; clear HB; have BK156 := n0_; have HB := n1_; clear n0_ n1_; (try clear hb); (try clear hb2); (try clear hk); (try clear hi)))
                go_meet
                case rel => exact ⟨_, (t165), (by first | rfl | (simp; done) | (simp [*]; done)), H', ⟨by first | omega | exact Nat.le_refl _⟩, ⟨by (with_reducible repeat (first | refine blk_drewN ?_ _ | refine blk_drew ?_ | refine blk_alloc ?_ _)); exact BK156.out⟩, ⟨by repeat (first | (with_reducible first | exact HB.out | apply below_alloc | apply pw_below_drewN | apply below_drew1 | refine below_set ?_ GE156.out) | exact HB.out)⟩⟩
              · replace c24 := Bool.eq_false_iff.mpr c24
                subst c24
                have H1 : (xnum_pictured.j0 k a0 t162 (!false) (a0.extract 0 ((ji3) : Int).toNat) t159 t160 t158) = some (r1, r2, r3, r4, r5) := by rw [if_neg (show ¬ (false = true) by decide)] at H; exact H
                clear H
                have H := H1
                clear H1
                have H' := Aside0.mk H
                clear H
                go_wp2_with (first | ((with_reducible refine gate_callee (f := 70) rfl ?_); refine goesL_ (some 44) rfl rfl Tryz.func70 (by kernel_rfl) rfl #[.string (t157.extract 0 ((ji7) : Int).toNat), .string (⟨#[35, 48]⟩ : ByteArray)] rfl (by (try simp only [List.map_toArray, List.map_cons, List.map_nil]); first | done | (simp only [hji7]; rfl) | rfl | (simp only [List.length_drop, List.length_take]; rfl)) ?_; (with_reducible refine (strings_ContainsAny.calls (t157.extract 0 ((ji7) : Int).toNat) (⟨#[35, 48]⟩ : ByteArray) false _ ?side1 A23.out).mono ?_); (case side1 => first | exact HLD | exact Laid.below HLD (by repeat (first | (with_reducible first | exact HB.out | apply below_alloc | apply pw_below_drewN | apply below_drew1 | refine below_set ?_ GE156.out) | exact HB.out))); rintro e w29 ⟨rfl, hb⟩; refine ⟨_, rfl, ?_⟩; have n0_ := Aside0.mk (blk_below (g := gb156) (o := .cells #[.string (a0.extract 0 ((ji3) : Int).toNat), .string t159, .string t160, .string t158] 69 (0, 0)) (by (with_reducible repeat (first | refine blk_drewN ?_ _ | refine blk_drew ?_ | refine blk_alloc ?_ _)); exact BK156.out) hb); have n1_ := Aside0.mk (below_step (by repeat (first | (with_reducible first | exact HB.out | apply below_alloc | apply pw_below_drewN | apply below_drew1 | refine below_set ?_ GE156.out) | exact HB.out)) hb); clear BK156; clear HB; have BK156 := n0_; have HB := n1_; clear n0_ n1_; (try clear hb); (try clear hb2); (try clear hk); (try clear hi)))
                go_meet
                case rel => exact ⟨_, (!false), (by first | rfl | (simp; done) | (simp [*]; done)), H', ⟨by first | omega | exact Nat.le_refl _⟩, ⟨by (with_reducible repeat (first | refine blk_drewN ?_ _ | refine blk_drew ?_ | refine blk_alloc ?_ _)); exact BK156.out⟩, ⟨by repeat (first | (with_reducible first | exact HB.out | apply below_alloc | apply pw_below_drewN | apply below_drew1 | refine below_set ?_ GE156.out) | exact HB.out)⟩⟩
          case rest =>
            clear HC13
            try clear c2
            try clear p2
            try clear c3
            try clear c4
            try clear c4b0
            try clear c4b1
            try clear c5
            try clear c5b0
            try clear c5b1
            try clear c6
            try clear p6
            try clear c7
            try clear c8
            try clear c8b0
            try clear c8b1
            try clear c9
            try clear c9b0
            try clear c9b1
            try clear c22
            try clear c24
            try clear c27
            try clear hcz16_0
            try clear hcz16_1
            try clear hcz16_2
            try clear hcz16_3
            try clear hcz18_0
            try clear hcz18_1
            try clear hcz18_2
            try clear hcz18_3
            try clear hcz20_0
            try clear hcz20_1
            try clear hcz20_2
            try clear hcz20_3
            try clear hcz27_0
            try clear hcz27_1
            try clear hcz27_2
            try clear hcz27_3
            try clear hfz16_0
            try clear hfz16_1
            try clear hfz16_2
            try clear hfz16_3
            try clear hfz18_0
            try clear hfz18_1
            try clear hfz18_2
            try clear hfz18_3
            try clear hfz20_0
            try clear hfz20_1
            try clear hfz20_2
            try clear hfz20_3
            try clear hfz27_0
            try clear hfz27_1
            try clear hfz27_2
            try clear hfz27_3
            obtain ⟨kq, x39_12, rfl, HA, HJ12, BK156, HB⟩ := hcut
            cases kq with
            | zero => exact absurd HA.out (by simp [xnum_pictured.j0])
            | succ kj12 =>
              have H := HA.out
              clear HA
              simp only [xnum_pictured.j0] at H
              by_cases c30 : x39_12 = true
              · subst c30
                have H1 : (some ((a0.extract 0 ((ji3) : Int).toNat), t159, t160, t158, false)) = some (r1, r2, r3, r4, r5) := by rw [if_pos rfl] at H; exact H
                clear H
                have H := H1
                clear H1
                simp only [Option.some.injEq, Prod.mk.injEq] at H
                obtain ⟨rfl, rfl, rfl, rfl, rfl⟩ := H
                have hcz31_0 : wc.cell? ⟨gb156, 0, none⟩ = some (.string (a0.extract 0 ((ji3) : Int).toNat)) := (blk_cell BK156.out 0).trans rfl
                have hcz31_1 : wc.cell? ⟨gb156, 1, none⟩ = some (.string t159) := (blk_cell BK156.out 1).trans rfl
                have hcz31_2 : wc.cell? ⟨gb156, 2, none⟩ = some (.string t160) := (blk_cell BK156.out 2).trans rfl
                have hcz31_3 : wc.cell? ⟨gb156, 3, none⟩ = some (.string t158) := (blk_cell BK156.out 3).trans rfl
                have hfz31_0 := blk_frozen BK156.out 0
                have hfz31_1 := blk_frozen BK156.out 1
                have hfz31_2 := blk_frozen BK156.out 2
                have hfz31_3 := blk_frozen BK156.out 3
                go_wp2
                refine bodyPost_ret (results_ct rfl _ _ gb156 69 #[.string (a0.extract 0 ((ji3) : Int).toNat), .string t159, .string t160, .string t158] (0, 0) _ rfl (by (with_reducible repeat (first | refine blk_drewN ?_ _ | refine blk_drew ?_ | refine blk_alloc ?_ _)); refine blk_put (cs := #[.string (a0.extract 0 ((ji3) : Int).toNat), .string t159, .string t160, .string t158]) ?_ 3 _ rfl; (with_reducible repeat (first | refine blk_drewN ?_ _ | refine blk_drew ?_ | refine blk_alloc ?_ _)); refine blk_put (cs := #[.string (a0.extract 0 ((ji3) : Int).toNat), .string t159, .string t160, .string t158]) ?_ 2 _ rfl; (with_reducible repeat (first | refine blk_drewN ?_ _ | refine blk_drew ?_ | refine blk_alloc ?_ _)); refine blk_put (cs := #[.string (a0.extract 0 ((ji3) : Int).toNat), .string t159, .string t160, .string t158]) ?_ 1 _ rfl; (with_reducible repeat (first | refine blk_drewN ?_ _ | refine blk_drew ?_ | refine blk_alloc ?_ _)); refine blk_put (cs := #[.string (a0.extract 0 ((ji3) : Int).toNat), .string t159, .string t160, .string t158]) ?_ 0 _ rfl; (with_reducible repeat (first | refine blk_drewN ?_ _ | refine blk_drew ?_ | refine blk_alloc ?_ _)); exact BK156.out) Tryz.underlying69 rfl (by kernel_rfl)) rfl ?_
                exact ⟨by first | rfl | (simp [errW_none, errW_some] <;> rfl) | (simp only [← hji3, ← hji7]; first | rfl | (simp [errW_none, errW_some] <;> rfl)) | (simp [*, errW_none, errW_some] <;> rfl), by repeat (first | (with_reducible first | exact HB.out | apply below_alloc | apply pw_below_drewN | apply below_drew1 | refine below_set ?_ GE156.out) | exact HB.out)⟩
              · replace c30 := Bool.eq_false_iff.mpr c30
                subst c30
                have H1 : ((strings_Contains.f t162 (⟨#[48, 35]⟩ : ByteArray)).bind fun t166 => (if t166 = true then (xnum_pictured.j1 kj12 a0 t166 (a0.extract 0 ((ji3) : Int).toNat) t159 t160 t158) else ((strings_Contains.f t160 (⟨#[35, 48]⟩ : ByteArray)).bind fun t167 => (if t167 = true then (xnum_pictured.j1 kj12 a0 t167 (a0.extract 0 ((ji3) : Int).toNat) t159 t160 t158) else ((strings_Contains.f t159 (⟨#[44, 44]⟩ : ByteArray)).bind fun t168 => (xnum_pictured.j1 kj12 a0 t168 (a0.extract 0 ((ji3) : Int).toNat) t159 t160 t158)))))) = some (r1, r2, r3, r4, r5) := by rw [if_neg (show ¬ (false = true) by decide)] at H; exact H
                clear H
                have H := H1
                clear H1
                replace H := Option.bind_eq_some_iff.mp H
                obtain ⟨t166, A320, H⟩ := H
                replace H : (if t166 = true then (xnum_pictured.j1 kj12 a0 t166 (a0.extract 0 ((ji3) : Int).toNat) t159 t160 t158) else ((strings_Contains.f t160 (⟨#[35, 48]⟩ : ByteArray)).bind fun t167 => (if t167 = true then (xnum_pictured.j1 kj12 a0 t167 (a0.extract 0 ((ji3) : Int).toNat) t159 t160 t158) else ((strings_Contains.f t159 (⟨#[44, 44]⟩ : ByteArray)).bind fun t168 => (xnum_pictured.j1 kj12 a0 t168 (a0.extract 0 ((ji3) : Int).toNat) t159 t160 t158))))) = some (r1, r2, r3, r4, r5) := H
                have A32 := Aside0.mk A320
                clear A320
                have HC33 := Aside0.mk H
                clear H
                go_upto_if 50 with (first | ((with_reducible refine gate_callee (f := 39) rfl ?_); refine goesL_ (some 52) rfl rfl Tryz.func39 (by kernel_rfl) rfl #[.string t162, .string (⟨#[48, 35]⟩ : ByteArray)] rfl (by (try simp only [List.map_toArray, List.map_cons, List.map_nil]); first | done | rfl | (simp only [List.length_drop, List.length_take]; rfl)) ?_; (with_reducible refine (strings_Contains.calls t162 (⟨#[48, 35]⟩ : ByteArray) t166 _ ?side1 A32.out).mono ?_); (case side1 => first | exact HLD | exact Laid.below HLD (by repeat (first | (with_reducible first | exact HB.out | apply below_alloc | apply pw_below_drewN | apply below_drew1 | refine below_set ?_ GE156.out) | exact HB.out))); rintro e w' ⟨rfl, ⟨nd, rfl⟩⟩; refine ⟨_, rfl, ?_⟩))
                (try simp only [Act.put, List.setIfInBounds_toArray, List.set_cons_zero, List.set_cons_succ])
                go_cut [50] (fun v50 wc => ∃ (kq : Nat) (x50_32 : Bool), v50 = .bool x50_32 ∧ Aside0 (xnum_pictured.j1 kq a0 x50_32 (a0.extract 0 ((ji3) : Int).toNat) t159 t160 t158 = some (r1, r2, r3, r4, r5)) ∧ Aside0 (kq ≤ kj12) ∧ Aside0 (wc.heap[gb156]? = some (.cells #[.string (a0.extract 0 ((ji3) : Int).toNat), .string t159, .string t160, .string t158] 69 (0, 0))) ∧ Aside0 (Below w.heap.size w wc))
                case first =>
                  have H := HC33.out
                  clear HC33
                  by_cases c34 : t166 = true
                  · subst c34
                    have H1 : (xnum_pictured.j1 kj12 a0 true (a0.extract 0 ((ji3) : Int).toNat) t159 t160 t158) = some (r1, r2, r3, r4, r5) := by rw [if_pos rfl] at H; exact H
                    clear H
                    have H := H1
                    clear H1
                    have H' := Aside0.mk H
                    clear H
                    go_wp2
                    go_meet
                    case rel => exact ⟨_, (true), (by first | rfl | (simp; done) | (simp [*]; done)), H', ⟨by have := HJ12.out; first | omega | exact Nat.le_refl _⟩, ⟨by (with_reducible repeat (first | refine blk_drewN ?_ _ | refine blk_drew ?_ | refine blk_alloc ?_ _)); exact BK156.out⟩, ⟨by repeat (first | (with_reducible first | exact HB.out | apply below_alloc | apply pw_below_drewN | apply below_drew1 | refine below_set ?_ GE156.out) | exact HB.out)⟩⟩
                  · replace c34 := Bool.eq_false_iff.mpr c34
                    subst c34
                    have H1 : ((strings_Contains.f t160 (⟨#[35, 48]⟩ : ByteArray)).bind fun t167 => (if t167 = true then (xnum_pictured.j1 kj12 a0 t167 (a0.extract 0 ((ji3) : Int).toNat) t159 t160 t158) else ((strings_Contains.f t159 (⟨#[44, 44]⟩ : ByteArray)).bind fun t168 => (xnum_pictured.j1 kj12 a0 t168 (a0.extract 0 ((ji3) : Int).toNat) t159 t160 t158)))) = some (r1, r2, r3, r4, r5) := by rw [if_neg (show ¬ (false = true) by decide)] at H; exact H
                    clear H
                    have H := H1
                    clear H1
                    replace H := Option.bind_eq_some_iff.mp H
                    obtain ⟨t167, A350, H⟩ := H
                    replace H : (if t167 = true then (xnum_pictured.j1 kj12 a0 t167 (a0.extract 0 ((ji3) : Int).toNat) t159 t160 t158) else ((strings_Contains.f t159 (⟨#[44, 44]⟩ : ByteArray)).bind fun t168 => (xnum_pictured.j1 kj12 a0 t168 (a0.extract 0 ((ji3) : Int).toNat) t159 t160 t158))) = some (r1, r2, r3, r4, r5) := H
                    have A35 := Aside0.mk A350
                    clear A350
                    by_cases c36 : t167 = true
                    · subst c36
                      have H1 : (xnum_pictured.j1 kj12 a0 true (a0.extract 0 ((ji3) : Int).toNat) t159 t160 t158) = some (r1, r2, r3, r4, r5) := by rw [if_pos rfl] at H; exact H
                      clear H
                      have H := H1
                      clear H1
                      have H' := Aside0.mk H
                      clear H
                      have hcz37_0 : wc.cell? ⟨gb156, 0, none⟩ = some (.string (a0.extract 0 ((ji3) : Int).toNat)) := (blk_cell BK156.out 0).trans rfl
                      have hcz37_1 : wc.cell? ⟨gb156, 1, none⟩ = some (.string t159) := (blk_cell BK156.out 1).trans rfl
                      have hcz37_2 : wc.cell? ⟨gb156, 2, none⟩ = some (.string t160) := (blk_cell BK156.out 2).trans rfl
                      have hcz37_3 : wc.cell? ⟨gb156, 3, none⟩ = some (.string t158) := (blk_cell BK156.out 3).trans rfl
                      have hfz37_0 := blk_frozen BK156.out 0
                      have hfz37_1 := blk_frozen BK156.out 1
                      have hfz37_2 := blk_frozen BK156.out 2
                      have hfz37_3 := blk_frozen BK156.out 3
                      go_wp2_with (first | ((with_reducible refine gate_callee (f := 39) rfl ?_); refine goesL_ (some 55) rfl rfl Tryz.func39 (by kernel_rfl) rfl #[.string t160, .string (⟨#[35, 48]⟩ : ByteArray)] rfl (by (try simp only [List.map_toArray, List.map_cons, List.map_nil]); first | done | rfl | (simp only [List.length_drop, List.length_take]; rfl)) ?_; (with_reducible refine (strings_Contains.calls t160 (⟨#[35, 48]⟩ : ByteArray) true _ ?side1 A35.out).mono ?_); (case side1 => first | exact HLD | exact Laid.below HLD (by repeat (first | (with_reducible first | exact HB.out | apply below_alloc | apply pw_below_drewN | apply below_drew1 | refine below_set ?_ GE156.out) | exact HB.out))); rintro e w' ⟨rfl, ⟨nd, rfl⟩⟩; refine ⟨_, rfl, ?_⟩))
                      go_meet
                      case rel => exact ⟨_, (true), (by first | rfl | (simp; done) | (simp [*]; done)), H', ⟨by have := HJ12.out; first | omega | exact Nat.le_refl _⟩, ⟨by (with_reducible repeat (first | refine blk_drewN ?_ _ | refine blk_drew ?_ | refine blk_alloc ?_ _)); exact BK156.out⟩, ⟨by repeat (first | (with_reducible first | exact HB.out | apply below_alloc | apply pw_below_drewN | apply below_drew1 | refine below_set ?_ GE156.out) | exact HB.out)⟩⟩
                    · replace c36 := Bool.eq_false_iff.mpr c36
                      subst c36
                      have H1 : ((strings_Contains.f t159 (⟨#[44, 44]⟩ : ByteArray)).bind fun t168 => (xnum_pictured.j1 kj12 a0 t168 (a0.extract 0 ((ji3) : Int).toNat) t159 t160 t158)) = some (r1, r2, r3, r4, r5) := by rw [if_neg (show ¬ (false = true) by decide)] at H; exact H
                      clear H
                      have H := H1
                      clear H1
                      replace H := Option.bind_eq_some_iff.mp H
                      obtain ⟨t168, A380, H⟩ := H
                      replace H : (xnum_pictured.j1 kj12 a0 t168 (a0.extract 0 ((ji3) : Int).toNat) t159 t160 t158) = some (r1, r2, r3, r4, r5) := H
                      have A38 := Aside0.mk A380
                      clear A380
                      have H' := Aside0.mk H
                      clear H
                      have hcz39_0 : wc.cell? ⟨gb156, 0, none⟩ = some (.string (a0.extract 0 ((ji3) : Int).toNat)) := (blk_cell BK156.out 0).trans rfl
                      have hcz39_1 : wc.cell? ⟨gb156, 1, none⟩ = some (.string t159) := (blk_cell BK156.out 1).trans rfl
                      have hcz39_2 : wc.cell? ⟨gb156, 2, none⟩ = some (.string t160) := (blk_cell BK156.out 2).trans rfl
                      have hcz39_3 : wc.cell? ⟨gb156, 3, none⟩ = some (.string t158) := (blk_cell BK156.out 3).trans rfl
                      have hfz39_0 := blk_frozen BK156.out 0
                      have hfz39_1 := blk_frozen BK156.out 1
                      have hfz39_2 := blk_frozen BK156.out 2
                      have hfz39_3 := blk_frozen BK156.out 3
                      go_wp2_with (first | ((with_reducible refine gate_callee (f := 39) rfl ?_); refine goesL_ (some 55) rfl rfl Tryz.func39 (by kernel_rfl) rfl #[.string t160, .string (⟨#[35, 48]⟩ : ByteArray)] rfl (by (try simp only [List.map_toArray, List.map_cons, List.map_nil]); first | done | rfl | (simp only [List.length_drop, List.length_take]; rfl)) ?_; (with_reducible refine (strings_Contains.calls t160 (⟨#[35, 48]⟩ : ByteArray) false _ ?side1 A35.out).mono ?_); (case side1 => first | exact HLD | exact Laid.below HLD (by repeat (first | (with_reducible first | exact HB.out | apply below_alloc | apply pw_below_drewN | apply below_drew1 | refine below_set ?_ GE156.out) | exact HB.out))); rintro e w' ⟨rfl, ⟨nd, rfl⟩⟩; refine ⟨_, rfl, ?_⟩) | ((with_reducible refine gate_callee (f := 39) rfl ?_); refine goesL_ (some 58) rfl rfl Tryz.func39 (by kernel_rfl) rfl #[.string t159, .string (⟨#[44, 44]⟩ : ByteArray)] rfl (by (try simp only [List.map_toArray, List.map_cons, List.map_nil]); first | done | rfl | (simp only [List.length_drop, List.length_take]; rfl)) ?_; (with_reducible refine (strings_Contains.calls t159 (⟨#[44, 44]⟩ : ByteArray) t168 _ ?side1 A38.out).mono ?_); (case side1 => first | exact HLD | exact Laid.below HLD (by repeat (first | (with_reducible first | exact HB.out | apply below_alloc | apply pw_below_drewN | apply below_drew1 | refine below_set ?_ GE156.out) | exact HB.out))); rintro e w' ⟨rfl, ⟨nd, rfl⟩⟩; refine ⟨_, rfl, ?_⟩))
                      go_meet
                      case rel => exact ⟨_, (t168), (by first | rfl | (simp; done) | (simp [*]; done)), H', ⟨by have := HJ12.out; first | omega | exact Nat.le_refl _⟩, ⟨by (with_reducible repeat (first | refine blk_drewN ?_ _ | refine blk_drew ?_ | refine blk_alloc ?_ _)); exact BK156.out⟩, ⟨by repeat (first | (with_reducible first | exact HB.out | apply below_alloc | apply pw_below_drewN | apply below_drew1 | refine below_set ?_ GE156.out) | exact HB.out)⟩⟩
                case rest =>
                  clear HC33
                  try clear c2
                  try clear p2
                  try clear c3
                  try clear c4
                  try clear c4b0
                  try clear c4b1
                  try clear c5
                  try clear c5b0
                  try clear c5b1
                  try clear c6
                  try clear p6
                  try clear c7
                  try clear c8
                  try clear c8b0
                  try clear c8b1
                  try clear c9
                  try clear c9b0
                  try clear c9b1
                  try clear c22
                  try clear c24
                  try clear c27
                  try clear c30
                  try clear c34
                  try clear c36
                  try clear c39
                  try clear hcz16_0
                  try clear hcz16_1
                  try clear hcz16_2
                  try clear hcz16_3
                  try clear hcz18_0
                  try clear hcz18_1
                  try clear hcz18_2
                  try clear hcz18_3
                  try clear hcz20_0
                  try clear hcz20_1
                  try clear hcz20_2
                  try clear hcz20_3
                  try clear hcz27_0
                  try clear hcz27_1
                  try clear hcz27_2
                  try clear hcz27_3
                  try clear hcz31_0
                  try clear hcz31_1
                  try clear hcz31_2
                  try clear hcz31_3
                  try clear hcz37_0
                  try clear hcz37_1
                  try clear hcz37_2
                  try clear hcz37_3
                  try clear hcz39_0
                  try clear hcz39_1
                  try clear hcz39_2
                  try clear hcz39_3
                  try clear hfz16_0
                  try clear hfz16_1
                  try clear hfz16_2
                  try clear hfz16_3
                  try clear hfz18_0
                  try clear hfz18_1
                  try clear hfz18_2
                  try clear hfz18_3
                  try clear hfz20_0
                  try clear hfz20_1
                  try clear hfz20_2
                  try clear hfz20_3
                  try clear hfz27_0
                  try clear hfz27_1
                  try clear hfz27_2
                  try clear hfz27_3
                  try clear hfz31_0
                  try clear hfz31_1
                  try clear hfz31_2
                  try clear hfz31_3
                  try clear hfz37_0
                  try clear hfz37_1
                  try clear hfz37_2
                  try clear hfz37_3
                  try clear hfz39_0
                  try clear hfz39_1
                  try clear hfz39_2
                  try clear hfz39_3
                  try clear p2
                  try clear p6
                  obtain ⟨kq, x50_32, rfl, HA, HJ32, BK156, HB⟩ := hcut
                  cases kq with
                  | zero => exact absurd HA.out (by simp [xnum_pictured.j1])
                  | succ kj32 =>
                    have H := HA.out
                    clear HA
                    simp only [xnum_pictured.j1] at H
                    by_cases c40 : x50_32 = true
                    · subst c40
                      have H1 : (some ((a0.extract 0 ((ji3) : Int).toNat), t159, t160, t158, false)) = some (r1, r2, r3, r4, r5) := by rw [if_pos rfl] at H; exact H
                      clear H
                      have H := H1
                      clear H1
                      simp only [Option.some.injEq, Prod.mk.injEq] at H
                      obtain ⟨rfl, rfl, rfl, rfl, rfl⟩ := H
                      have hcz41_0 : wc.cell? ⟨gb156, 0, none⟩ = some (.string (a0.extract 0 ((ji3) : Int).toNat)) := (blk_cell BK156.out 0).trans rfl
                      have hcz41_1 : wc.cell? ⟨gb156, 1, none⟩ = some (.string t159) := (blk_cell BK156.out 1).trans rfl
                      have hcz41_2 : wc.cell? ⟨gb156, 2, none⟩ = some (.string t160) := (blk_cell BK156.out 2).trans rfl
                      have hcz41_3 : wc.cell? ⟨gb156, 3, none⟩ = some (.string t158) := (blk_cell BK156.out 3).trans rfl
                      have hfz41_0 := blk_frozen BK156.out 0
                      have hfz41_1 := blk_frozen BK156.out 1
                      have hfz41_2 := blk_frozen BK156.out 2
                      have hfz41_3 := blk_frozen BK156.out 3
                      go_wp2
                      refine bodyPost_ret (results_ct rfl _ _ gb156 69 #[.string (a0.extract 0 ((ji3) : Int).toNat), .string t159, .string t160, .string t158] (0, 0) _ rfl (by (with_reducible repeat (first | refine blk_drewN ?_ _ | refine blk_drew ?_ | refine blk_alloc ?_ _)); refine blk_put (cs := #[.string (a0.extract 0 ((ji3) : Int).toNat), .string t159, .string t160, .string t158]) ?_ 3 _ rfl; (with_reducible repeat (first | refine blk_drewN ?_ _ | refine blk_drew ?_ | refine blk_alloc ?_ _)); refine blk_put (cs := #[.string (a0.extract 0 ((ji3) : Int).toNat), .string t159, .string t160, .string t158]) ?_ 2 _ rfl; (with_reducible repeat (first | refine blk_drewN ?_ _ | refine blk_drew ?_ | refine blk_alloc ?_ _)); refine blk_put (cs := #[.string (a0.extract 0 ((ji3) : Int).toNat), .string t159, .string t160, .string t158]) ?_ 1 _ rfl; (with_reducible repeat (first | refine blk_drewN ?_ _ | refine blk_drew ?_ | refine blk_alloc ?_ _)); refine blk_put (cs := #[.string (a0.extract 0 ((ji3) : Int).toNat), .string t159, .string t160, .string t158]) ?_ 0 _ rfl; (with_reducible repeat (first | refine blk_drewN ?_ _ | refine blk_drew ?_ | refine blk_alloc ?_ _)); exact BK156.out) Tryz.underlying69 rfl (by kernel_rfl)) rfl ?_
                      exact ⟨by first | rfl | (simp [errW_none, errW_some] <;> rfl) | (simp only [← hji3, ← hji7]; first | rfl | (simp [errW_none, errW_some] <;> rfl)) | (simp [*, errW_none, errW_some] <;> rfl), by repeat (first | (with_reducible first | exact HB.out | apply below_alloc | apply pw_below_drewN | apply below_drew1 | refine below_set ?_ GE156.out) | exact HB.out)⟩
                    · replace c40 := Bool.eq_false_iff.mpr c40
                      subst c40
                      have H1 : ((strings_HasPrefix.f t159 (⟨#[44]⟩ : ByteArray)).bind fun t169 => (if t169 = true then (some ((a0.extract 0 ((ji3) : Int).toNat), t159, t160, t158, false)) else ((strings_HasSuffix.f t159 (⟨#[44]⟩ : ByteArray)).bind fun t170 => (if t170 = true then (some ((a0.extract 0 ((ji3) : Int).toNat), t159, t160, t158, false)) else ((strings_Count.f a0 (⟨#[37]⟩ : ByteArray)).bind fun t171 => (some ((a0.extract 0 ((ji3) : Int).toNat), t159, t160, t158, decide (t171 ≤ 1)))))))) = some (r1, r2, r3, r4, r5) := by rw [if_neg (show ¬ (false = true) by decide)] at H; exact H
                      clear H
                      have H := H1
                      clear H1
                      replace H := Option.bind_eq_some_iff.mp H
                      obtain ⟨t169, A420, H⟩ := H
                      replace H : (if t169 = true then (some ((a0.extract 0 ((ji3) : Int).toNat), t159, t160, t158, false)) else ((strings_HasSuffix.f t159 (⟨#[44]⟩ : ByteArray)).bind fun t170 => (if t170 = true then (some ((a0.extract 0 ((ji3) : Int).toNat), t159, t160, t158, false)) else ((strings_Count.f a0 (⟨#[37]⟩ : ByteArray)).bind fun t171 => (some ((a0.extract 0 ((ji3) : Int).toNat), t159, t160, t158, decide (t171 ≤ 1))))))) = some (r1, r2, r3, r4, r5) := H
                      have A42 := Aside0.mk A420
                      clear A420
                      by_cases c43 : t169 = true
                      · subst c43
                        have H1 : (some ((a0.extract 0 ((ji3) : Int).toNat), t159, t160, t158, false)) = some (r1, r2, r3, r4, r5) := by rw [if_pos rfl] at H; exact H
                        clear H
                        have H := H1
                        clear H1
                        simp only [Option.some.injEq, Prod.mk.injEq] at H
                        obtain ⟨rfl, rfl, rfl, rfl, rfl⟩ := H
                        have hcz44_0 : wc.cell? ⟨gb156, 0, none⟩ = some (.string (a0.extract 0 ((ji3) : Int).toNat)) := (blk_cell BK156.out 0).trans rfl
                        have hcz44_1 : wc.cell? ⟨gb156, 1, none⟩ = some (.string t159) := (blk_cell BK156.out 1).trans rfl
                        have hcz44_2 : wc.cell? ⟨gb156, 2, none⟩ = some (.string t160) := (blk_cell BK156.out 2).trans rfl
                        have hcz44_3 : wc.cell? ⟨gb156, 3, none⟩ = some (.string t158) := (blk_cell BK156.out 3).trans rfl
                        have hfz44_0 := blk_frozen BK156.out 0
                        have hfz44_1 := blk_frozen BK156.out 1
                        have hfz44_2 := blk_frozen BK156.out 2
                        have hfz44_3 := blk_frozen BK156.out 3
                        go_wp2_with (first | ((with_reducible refine gate_callee (f := 20) rfl ?_); refine goesL_ (some 63) rfl rfl Tryz.func20 (by kernel_rfl) rfl #[.string t159, .string (⟨#[44]⟩ : ByteArray)] rfl (by (try simp only [List.map_toArray, List.map_cons, List.map_nil]); first | done | rfl | (simp only [List.length_drop, List.length_take]; rfl)) ?_; (with_reducible refine (strings_HasPrefix.calls t159 (⟨#[44]⟩ : ByteArray) true _ ?side1 A42.out).mono ?_); (case side1 => first | exact HLD | exact Laid.below HLD (by repeat (first | (with_reducible first | exact HB.out | apply below_alloc | apply pw_below_drewN | apply below_drew1 | refine below_set ?_ GE156.out) | exact HB.out))); rintro e w' ⟨rfl, ⟨nd, rfl⟩⟩; refine ⟨_, rfl, ?_⟩; (try (rw [drewN_self wc]; generalize hq_ : World.drewN wc _ = wc; have n0_ : Aside0 (wc.heap[gb156]? = some (.cells #[.string (a0.extract 0 ((ji3) : Int).toNat), .string t159, .string t160, .string t158] 69 (0, 0))) := ⟨by rw [← hq_]; exact (by (with_reducible repeat (first | refine blk_drewN ?_ _ | refine blk_drew ?_ | refine blk_alloc ?_ _)); exact BK156.out)⟩; have n1_ : Aside0 (Below w.heap.size w wc) := ⟨by rw [← hq_]; exact (by repeat (first | (with_reducible first | exact HB.out | apply below_alloc | apply pw_below_drewN | apply below_drew1 | refine below_set ?_ GE156.out) | exact HB.out))⟩; clear BK156 HB hq_; have BK156 := n0_; have HB := n1_; clear n0_ n1_; have hcz44_0 : wc.cell? ⟨gb156, 0, none⟩ = some (.string (a0.extract 0 ((ji3) : Int).toNat)) := (blk_cell BK156.out 0).trans rfl; have hcz44_1 : wc.cell? ⟨gb156, 1, none⟩ = some (.string t159) := (blk_cell BK156.out 1).trans rfl; have hcz44_2 : wc.cell? ⟨gb156, 2, none⟩ = some (.string t160) := (blk_cell BK156.out 2).trans rfl; have hcz44_3 : wc.cell? ⟨gb156, 3, none⟩ = some (.string t158) := (blk_cell BK156.out 3).trans rfl; have hfz44_0 := blk_frozen BK156.out 0; have hfz44_1 := blk_frozen BK156.out 1; have hfz44_2 := blk_frozen BK156.out 2; have hfz44_3 := blk_frozen BK156.out 3))))
                        refine bodyPost_ret (results_ct rfl _ _ gb156 69 #[.string (a0.extract 0 ((ji3) : Int).toNat), .string t159, .string t160, .string t158] (0, 0) _ rfl (by (with_reducible repeat (first | refine blk_drewN ?_ _ | refine blk_drew ?_ | refine blk_alloc ?_ _)); refine blk_put (cs := #[.string (a0.extract 0 ((ji3) : Int).toNat), .string t159, .string t160, .string t158]) ?_ 3 _ rfl; (with_reducible repeat (first | refine blk_drewN ?_ _ | refine blk_drew ?_ | refine blk_alloc ?_ _)); refine blk_put (cs := #[.string (a0.extract 0 ((ji3) : Int).toNat), .string t159, .string t160, .string t158]) ?_ 2 _ rfl; (with_reducible repeat (first | refine blk_drewN ?_ _ | refine blk_drew ?_ | refine blk_alloc ?_ _)); refine blk_put (cs := #[.string (a0.extract 0 ((ji3) : Int).toNat), .string t159, .string t160, .string t158]) ?_ 1 _ rfl; (with_reducible repeat (first | refine blk_drewN ?_ _ | refine blk_drew ?_ | refine blk_alloc ?_ _)); refine blk_put (cs := #[.string (a0.extract 0 ((ji3) : Int).toNat), .string t159, .string t160, .string t158]) ?_ 0 _ rfl; (with_reducible repeat (first | refine blk_drewN ?_ _ | refine blk_drew ?_ | refine blk_alloc ?_ _)); exact BK156.out) Tryz.underlying69 rfl (by kernel_rfl)) rfl ?_
                        exact ⟨by first | rfl | (simp [errW_none, errW_some] <;> rfl) | (simp only [← hji3, ← hji7]; first | rfl | (simp [errW_none, errW_some] <;> rfl)) | (simp [*, errW_none, errW_some] <;> rfl), by repeat (first | (with_reducible first | exact HB.out | apply below_alloc | apply pw_below_drewN | apply below_drew1 | refine below_set ?_ GE156.out) | exact HB.out)⟩
                      · replace c43 := Bool.eq_false_iff.mpr c43
                        subst c43
                        have H1 : ((strings_HasSuffix.f t159 (⟨#[44]⟩ : ByteArray)).bind fun t170 => (if t170 = true then (some ((a0.extract 0 ((ji3) : Int).toNat), t159, t160, t158, false)) else ((strings_Count.f a0 (⟨#[37]⟩ : ByteArray)).bind fun t171 => (some ((a0.extract 0 ((ji3) : Int).toNat), t159, t160, t158, decide (t171 ≤ 1)))))) = some (r1, r2, r3, r4, r5) := by rw [if_neg (show ¬ (false = true) by decide)] at H; exact H
                        clear H
                        have H := H1
                        clear H1
                        replace H := Option.bind_eq_some_iff.mp H
                        obtain ⟨t170, A450, H⟩ := H
                        replace H : (if t170 = true then (some ((a0.extract 0 ((ji3) : Int).toNat), t159, t160, t158, false)) else ((strings_Count.f a0 (⟨#[37]⟩ : ByteArray)).bind fun t171 => (some ((a0.extract 0 ((ji3) : Int).toNat), t159, t160, t158, decide (t171 ≤ 1))))) = some (r1, r2, r3, r4, r5) := H
                        have A45 := Aside0.mk A450
                        clear A450
                        by_cases c46 : t170 = true
                        · subst c46
                          have H1 : (some ((a0.extract 0 ((ji3) : Int).toNat), t159, t160, t158, false)) = some (r1, r2, r3, r4, r5) := by rw [if_pos rfl] at H; exact H
                          clear H
                          have H := H1
                          clear H1
                          simp only [Option.some.injEq, Prod.mk.injEq] at H
                          obtain ⟨rfl, rfl, rfl, rfl, rfl⟩ := H
                          have hcz47_0 : wc.cell? ⟨gb156, 0, none⟩ = some (.string (a0.extract 0 ((ji3) : Int).toNat)) := (blk_cell BK156.out 0).trans rfl
                          have hcz47_1 : wc.cell? ⟨gb156, 1, none⟩ = some (.string t159) := (blk_cell BK156.out 1).trans rfl
                          have hcz47_2 : wc.cell? ⟨gb156, 2, none⟩ = some (.string t160) := (blk_cell BK156.out 2).trans rfl
                          have hcz47_3 : wc.cell? ⟨gb156, 3, none⟩ = some (.string t158) := (blk_cell BK156.out 3).trans rfl
                          have hfz47_0 := blk_frozen BK156.out 0
                          have hfz47_1 := blk_frozen BK156.out 1
                          have hfz47_2 := blk_frozen BK156.out 2
                          have hfz47_3 := blk_frozen BK156.out 3
                          go_wp2_with (first | ((with_reducible refine gate_callee (f := 20) rfl ?_); refine goesL_ (some 63) rfl rfl Tryz.func20 (by kernel_rfl) rfl #[.string t159, .string (⟨#[44]⟩ : ByteArray)] rfl (by (try simp only [List.map_toArray, List.map_cons, List.map_nil]); first | done | rfl | (simp only [List.length_drop, List.length_take]; rfl)) ?_; (with_reducible refine (strings_HasPrefix.calls t159 (⟨#[44]⟩ : ByteArray) false _ ?side1 A42.out).mono ?_); (case side1 => first | exact HLD | exact Laid.below HLD (by repeat (first | (with_reducible first | exact HB.out | apply below_alloc | apply pw_below_drewN | apply below_drew1 | refine below_set ?_ GE156.out) | exact HB.out))); rintro e w' ⟨rfl, ⟨nd, rfl⟩⟩; refine ⟨_, rfl, ?_⟩; (try (rw [drewN_self wc]; generalize hq_ : World.drewN wc _ = wc; have n0_ : Aside0 (wc.heap[gb156]? = some (.cells #[.string (a0.extract 0 ((ji3) : Int).toNat), .string t159, .string t160, .string t158] 69 (0, 0))) := ⟨by rw [← hq_]; exact (by (with_reducible repeat (first | refine blk_drewN ?_ _ | refine blk_drew ?_ | refine blk_alloc ?_ _)); exact BK156.out)⟩; have n1_ : Aside0 (Below w.heap.size w wc) := ⟨by rw [← hq_]; exact (by repeat (first | (with_reducible first | exact HB.out | apply below_alloc | apply pw_below_drewN | apply below_drew1 | refine below_set ?_ GE156.out) | exact HB.out))⟩; clear BK156 HB hq_; have BK156 := n0_; have HB := n1_; clear n0_ n1_; have hcz47_0 : wc.cell? ⟨gb156, 0, none⟩ = some (.string (a0.extract 0 ((ji3) : Int).toNat)) := (blk_cell BK156.out 0).trans rfl; have hcz47_1 : wc.cell? ⟨gb156, 1, none⟩ = some (.string t159) := (blk_cell BK156.out 1).trans rfl; have hcz47_2 : wc.cell? ⟨gb156, 2, none⟩ = some (.string t160) := (blk_cell BK156.out 2).trans rfl; have hcz47_3 : wc.cell? ⟨gb156, 3, none⟩ = some (.string t158) := (blk_cell BK156.out 3).trans rfl; have hfz47_0 := blk_frozen BK156.out 0; have hfz47_1 := blk_frozen BK156.out 1; have hfz47_2 := blk_frozen BK156.out 2; have hfz47_3 := blk_frozen BK156.out 3))) | ((with_reducible refine gate_callee (f := 71) rfl ?_); refine goesL_ (some 66) rfl rfl Tryz.func71 (by kernel_rfl) rfl #[.string t159, .string (⟨#[44]⟩ : ByteArray)] rfl (by (try simp only [List.map_toArray, List.map_cons, List.map_nil]); first | done | rfl | (simp only [List.length_drop, List.length_take]; rfl)) ?_; (with_reducible refine (strings_HasSuffix.calls t159 (⟨#[44]⟩ : ByteArray) true _ ?side1 A45.out).mono ?_); (case side1 => first | exact HLD | exact Laid.below HLD (by repeat (first | (with_reducible first | exact HB.out | apply below_alloc | apply pw_below_drewN | apply below_drew1 | refine below_set ?_ GE156.out) | exact HB.out))); rintro e w' ⟨rfl, ⟨nd, rfl⟩⟩; refine ⟨_, rfl, ?_⟩; (try (rw [drewN_self wc]; generalize hq_ : World.drewN wc _ = wc; have n0_ : Aside0 (wc.heap[gb156]? = some (.cells #[.string (a0.extract 0 ((ji3) : Int).toNat), .string t159, .string t160, .string t158] 69 (0, 0))) := ⟨by rw [← hq_]; exact (by (with_reducible repeat (first | refine blk_drewN ?_ _ | refine blk_drew ?_ | refine blk_alloc ?_ _)); exact BK156.out)⟩; have n1_ : Aside0 (Below w.heap.size w wc) := ⟨by rw [← hq_]; exact (by repeat (first | (with_reducible first | exact HB.out | apply below_alloc | apply pw_below_drewN | apply below_drew1 | refine below_set ?_ GE156.out) | exact HB.out))⟩; clear BK156 HB hq_; have BK156 := n0_; have HB := n1_; clear n0_ n1_; have hcz47_0 : wc.cell? ⟨gb156, 0, none⟩ = some (.string (a0.extract 0 ((ji3) : Int).toNat)) := (blk_cell BK156.out 0).trans rfl; have hcz47_1 : wc.cell? ⟨gb156, 1, none⟩ = some (.string t159) := (blk_cell BK156.out 1).trans rfl; have hcz47_2 : wc.cell? ⟨gb156, 2, none⟩ = some (.string t160) := (blk_cell BK156.out 2).trans rfl; have hcz47_3 : wc.cell? ⟨gb156, 3, none⟩ = some (.string t158) := (blk_cell BK156.out 3).trans rfl; have hfz47_0 := blk_frozen BK156.out 0; have hfz47_1 := blk_frozen BK156.out 1; have hfz47_2 := blk_frozen BK156.out 2; have hfz47_3 := blk_frozen BK156.out 3))))
                          refine bodyPost_ret (results_ct rfl _ _ gb156 69 #[.string (a0.extract 0 ((ji3) : Int).toNat), .string t159, .string t160, .string t158] (0, 0) _ rfl (by (with_reducible repeat (first | refine blk_drewN ?_ _ | refine blk_drew ?_ | refine blk_alloc ?_ _)); refine blk_put (cs := #[.string (a0.extract 0 ((ji3) : Int).toNat), .string t159, .string t160, .string t158]) ?_ 3 _ rfl; (with_reducible repeat (first | refine blk_drewN ?_ _ | refine blk_drew ?_ | refine blk_alloc ?_ _)); refine blk_put (cs := #[.string (a0.extract 0 ((ji3) : Int).toNat), .string t159, .string t160, .string t158]) ?_ 2 _ rfl; (with_reducible repeat (first | refine blk_drewN ?_ _ | refine blk_drew ?_ | refine blk_alloc ?_ _)); refine blk_put (cs := #[.string (a0.extract 0 ((ji3) : Int).toNat), .string t159, .string t160, .string t158]) ?_ 1 _ rfl; (with_reducible repeat (first | refine blk_drewN ?_ _ | refine blk_drew ?_ | refine blk_alloc ?_ _)); refine blk_put (cs := #[.string (a0.extract 0 ((ji3) : Int).toNat), .string t159, .string t160, .string t158]) ?_ 0 _ rfl; (with_reducible repeat (first | refine blk_drewN ?_ _ | refine blk_drew ?_ | refine blk_alloc ?_ _)); exact BK156.out) Tryz.underlying69 rfl (by kernel_rfl)) rfl ?_
                          exact ⟨by first | rfl | (simp [errW_none, errW_some] <;> rfl) | (simp only [← hji3, ← hji7]; first | rfl | (simp [errW_none, errW_some] <;> rfl)) | (simp [*, errW_none, errW_some] <;> rfl), by repeat (first | (with_reducible first | exact HB.out | apply below_alloc | apply pw_below_drewN | apply below_drew1 | refine below_set ?_ GE156.out) | exact HB.out)⟩
                        · replace c46 := Bool.eq_false_iff.mpr c46
                          subst c46
                          have H1 : ((strings_Count.f a0 (⟨#[37]⟩ : ByteArray)).bind fun t171 => (some ((a0.extract 0 ((ji3) : Int).toNat), t159, t160, t158, decide (t171 ≤ 1)))) = some (r1, r2, r3, r4, r5) := by rw [if_neg (show ¬ (false = true) by decide)] at H; exact H
                          clear H
                          have H := H1
                          clear H1
                          replace H := Option.bind_eq_some_iff.mp H
                          obtain ⟨t171, A480, H⟩ := H
                          replace H : (some ((a0.extract 0 ((ji3) : Int).toNat), t159, t160, t158, decide (t171 ≤ 1))) = some (r1, r2, r3, r4, r5) := H
                          have A48 := Aside0.mk A480
                          clear A480
                          simp only [Option.some.injEq, Prod.mk.injEq] at H
                          obtain ⟨rfl, rfl, rfl, rfl, rfl⟩ := H
                          have hcz49_0 : wc.cell? ⟨gb156, 0, none⟩ = some (.string (a0.extract 0 ((ji3) : Int).toNat)) := (blk_cell BK156.out 0).trans rfl
                          have hcz49_1 : wc.cell? ⟨gb156, 1, none⟩ = some (.string t159) := (blk_cell BK156.out 1).trans rfl
                          have hcz49_2 : wc.cell? ⟨gb156, 2, none⟩ = some (.string t160) := (blk_cell BK156.out 2).trans rfl
                          have hcz49_3 : wc.cell? ⟨gb156, 3, none⟩ = some (.string t158) := (blk_cell BK156.out 3).trans rfl
                          have hfz49_0 := blk_frozen BK156.out 0
                          have hfz49_1 := blk_frozen BK156.out 1
                          have hfz49_2 := blk_frozen BK156.out 2
                          have hfz49_3 := blk_frozen BK156.out 3
                          try go_wp2_with (first | ((with_reducible refine gate_callee (f := 20) rfl ?_); refine goesL_ (some 63) rfl rfl Tryz.func20 (by kernel_rfl) rfl #[.string t159, .string (⟨#[44]⟩ : ByteArray)] rfl (by (try simp only [List.map_toArray, List.map_cons, List.map_nil]); first | done | rfl | (simp only [List.length_drop, List.length_take]; rfl)) ?_; (with_reducible refine (strings_HasPrefix.calls t159 (⟨#[44]⟩ : ByteArray) false _ ?side1 A42.out).mono ?_); (case side1 => first | exact HLD | exact Laid.below HLD (by repeat (first | (with_reducible first | exact HB.out | apply below_alloc | apply pw_below_drewN | apply below_drew1 | refine below_set ?_ GE156.out) | exact HB.out))); rintro e w' ⟨rfl, ⟨nd, rfl⟩⟩; refine ⟨_, rfl, ?_⟩; (try (rw [drewN_self wc]; generalize hq_ : World.drewN wc _ = wc; have n0_ : Aside0 (wc.heap[gb156]? = some (.cells #[.string (a0.extract 0 ((ji3) : Int).toNat), .string t159, .string t160, .string t158] 69 (0, 0))) := ⟨by rw [← hq_]; exact (by (with_reducible repeat (first | refine blk_drewN ?_ _ | refine blk_drew ?_ | refine blk_alloc ?_ _)); exact BK156.out)⟩; have n1_ : Aside0 (Below w.heap.size w wc) := ⟨by rw [← hq_]; exact (by repeat (first | (with_reducible first | exact HB.out | apply below_alloc | apply pw_below_drewN | apply below_drew1 | refine below_set ?_ GE156.out) | exact HB.out))⟩; clear BK156 HB hq_; have BK156 := n0_; have HB := n1_; clear n0_ n1_; have hcz49_0 : wc.cell? ⟨gb156, 0, none⟩ = some (.string (a0.extract 0 ((ji3) : Int).toNat)) := (blk_cell BK156.out 0).trans rfl; have hcz49_1 : wc.cell? ⟨gb156, 1, none⟩ = some (.string t159) := (blk_cell BK156.out 1).trans rfl; have hcz49_2 : wc.cell? ⟨gb156, 2, none⟩ = some (.string t160) := (blk_cell BK156.out 2).trans rfl; have hcz49_3 : wc.cell? ⟨gb156, 3, none⟩ = some (.string t158) := (blk_cell BK156.out 3).trans rfl; have hfz49_0 := blk_frozen BK156.out 0; have hfz49_1 := blk_frozen BK156.out 1; have hfz49_2 := blk_frozen BK156.out 2; have hfz49_3 := blk_frozen BK156.out 3))) | ((with_reducible refine gate_callee (f := 71) rfl ?_); refine goesL_ (some 66) rfl rfl Tryz.func71 (by kernel_rfl) rfl #[.string t159, .string (⟨#[44]⟩ : ByteArray)] rfl (by (try simp only [List.map_toArray, List.map_cons, List.map_nil]); first | done | rfl | (simp only [List.length_drop, List.length_take]; rfl)) ?_; (with_reducible refine (strings_HasSuffix.calls t159 (⟨#[44]⟩ : ByteArray) false _ ?side1 A45.out).mono ?_); (case side1 => first | exact HLD | exact Laid.below HLD (by repeat (first | (with_reducible first | exact HB.out | apply below_alloc | apply pw_below_drewN | apply below_drew1 | refine below_set ?_ GE156.out) | exact HB.out))); rintro e w' ⟨rfl, ⟨nd, rfl⟩⟩; refine ⟨_, rfl, ?_⟩; (try (rw [drewN_self wc]; generalize hq_ : World.drewN wc _ = wc; have n0_ : Aside0 (wc.heap[gb156]? = some (.cells #[.string (a0.extract 0 ((ji3) : Int).toNat), .string t159, .string t160, .string t158] 69 (0, 0))) := ⟨by rw [← hq_]; exact (by (with_reducible repeat (first | refine blk_drewN ?_ _ | refine blk_drew ?_ | refine blk_alloc ?_ _)); exact BK156.out)⟩; have n1_ : Aside0 (Below w.heap.size w wc) := ⟨by rw [← hq_]; exact (by repeat (first | (with_reducible first | exact HB.out | apply below_alloc | apply pw_below_drewN | apply below_drew1 | refine below_set ?_ GE156.out) | exact HB.out))⟩; clear BK156 HB hq_; have BK156 := n0_; have HB := n1_; clear n0_ n1_; have hcz49_0 : wc.cell? ⟨gb156, 0, none⟩ = some (.string (a0.extract 0 ((ji3) : Int).toNat)) := (blk_cell BK156.out 0).trans rfl; have hcz49_1 : wc.cell? ⟨gb156, 1, none⟩ = some (.string t159) := (blk_cell BK156.out 1).trans rfl; have hcz49_2 : wc.cell? ⟨gb156, 2, none⟩ = some (.string t160) := (blk_cell BK156.out 2).trans rfl; have hcz49_3 : wc.cell? ⟨gb156, 3, none⟩ = some (.string t158) := (blk_cell BK156.out 3).trans rfl; have hfz49_0 := blk_frozen BK156.out 0; have hfz49_1 := blk_frozen BK156.out 1; have hfz49_2 := blk_frozen BK156.out 2; have hfz49_3 := blk_frozen BK156.out 3))))
                          have n0_ := Aside0.mk (blk_drew BK156.out)
                          have n1_ := Aside0.mk (below_drew1 HB.out)
                          clear BK156
                          clear HB
                          have BK156 := n0_
                          have HB := n1_
                          clear n0_ n1_
                          refine start_ (n := 6) (S := fun w' => w'.cell? ⟨gb156, 0, none⟩ = some (.string (a0.extract 0 ((ji3) : Int).toNat)) ∧ w'.cell? ⟨gb156, 1, none⟩ = some (.string t159) ∧ w'.cell? ⟨gb156, 2, none⟩ = some (.string t160) ∧ w'.cell? ⟨gb156, 3, none⟩ = some (.string t158)) (ds := [4]) #[false, false, false, false, false, false] (by kernel_rfl) rfl rfl ⟨(blk_cell BK156.out 0).trans rfl, (blk_cell BK156.out 1).trans rfl, (blk_cell BK156.out 2).trans rfl, (blk_cell BK156.out 3).trans rfl⟩ (fun hHeld => ?_)
                          generalize wc.drew = w50 at BK156 HB hHeld ⊢
                          refine pure_ (i := 1) (N := some 69) (v := ?_) (a' := ?_) #[false, true, false, false, false, false] rfl rfl (by kernel_rfl) (fun _ _ _ h => h) (Or.inl ⟨by rfl, ?_⟩) ?_ ?_
                          rotate_left
                          · intro w'
                            go_simp
                            with_reducible rfl
                          rotate_left
                          · simp only [Act.put, List.setIfInBounds_toArray, List.set_cons_zero, List.set_cons_succ, i64_w, i32_w]
                            rfl
                          refine take_ (i := 0) (N := some 68) (v := ?_) (a' := ?_) #[true, true, false, false, false, false] rfl rfl (by kernel_rfl) (fun _ _ _ h => h) (Or.inl ⟨by rfl, ?_⟩) hHeld ?_ ?_
                          rotate_left
                          · rintro w' ⟨s0, s1, s2, s3⟩
                            go_simp
                            with_reducible rfl
                          rotate_left
                          · simp only [Act.put, List.setIfInBounds_toArray, List.set_cons_zero, List.set_cons_succ, i64_w, i32_w]
                            rfl
                          refine one_ (i := 2) (N := some 70) #[true, true, true, false, false, false] rfl rfl (by kernel_rfl) (by decide) (fun K hK => ?_)
                          refine goes_ Tryz.func72 (by kernel_rfl) rfl #[.string a0, .string (⟨#[37]⟩ : ByteArray)] (by rfl) rfl rfl (by (try simp only [List.map_toArray, List.map_cons, List.map_nil]); first | done | rfl | (simp only [List.length_drop, List.length_take]; rfl)) ?_
                          with_reducible refine (strings_Count.calls a0 (⟨#[37]⟩ : ByteArray) t171 _ ?side1 A48.out).mono ?_
                          (case side1 => first | exact HLD | exact Laid.below HLD (by repeat (first | (with_reducible first | exact HB.out | apply below_alloc | apply pw_below_drewN | apply below_drew1 | refine below_set ?_ GE156.out) | exact HB.out)))
                          rintro e w' ⟨rfl, ⟨nd, rfl⟩⟩
                          refine ⟨_, rfl, ?_⟩
                          refine hK.out _ _ ⟨(blk_cell BK156.out 0).trans rfl, (blk_cell BK156.out 1).trans rfl, (blk_cell BK156.out 2).trans rfl, (blk_cell BK156.out 3).trans rfl⟩ (fun hHeld => ?_)
                          clear hK K
                          refine norm_ (a' := ?_) ?_ ?_
                          rotate_left
                          · show Act.put _ (some 70) _ = _
                            simp only [Act.put, List.setIfInBounds_toArray, List.set_cons_zero, List.set_cons_succ, i64_w, i32_w]
                            rfl
                          refine pure_ (i := 3) (N := some 71) (v := ?_) (a' := ?_) #[true, true, true, true, false, false] rfl rfl (by kernel_rfl) (fun _ _ _ h => h) (Or.inl ⟨by rfl, ?_⟩) ?_ ?_
                          rotate_left
                          · intro w'
                            go_simp
                            with_reducible rfl
                          rotate_left
                          · simp only [Act.put, List.setIfInBounds_toArray, List.set_cons_zero, List.set_cons_succ, i64_w, i32_w]
                            rfl
                          refine last_ (i := 4) (N := none) #[true, true, true, true, true, false] rfl rfl (by kernel_rfl) (by decide) (fun K hK => ?_)
                          have hs51 : w50.cell? ⟨gb156, 0, none⟩ = some (.string (a0.extract 0 ((ji3) : Int).toNat)) := (blk_cell BK156.out 0).trans rfl
                          have hfs51 := blk_frozen BK156.out 0
                          have hs52 : w50.cell? ⟨gb156, 1, none⟩ = some (.string t159) := (blk_cell BK156.out 1).trans rfl
                          have hfs52 := blk_frozen BK156.out 1
                          have hs53 : w50.cell? ⟨gb156, 2, none⟩ = some (.string t160) := (blk_cell BK156.out 2).trans rfl
                          have hfs53 := blk_frozen BK156.out 2
                          have hs54 : w50.cell? ⟨gb156, 3, none⟩ = some (.string t158) := (blk_cell BK156.out 3).trans rfl
                          have hfs54 := blk_frozen BK156.out 3
                          refine skip_ (w1 := ?_) (by rfl) rfl ?_ ?_
                          rotate_left
                          · go_simp
                            rfl
                          refine hK.out _ _ ?_
                          clear hK K
                          refine pure_ (i := 5) (N := some 3) (v := ?_) (a' := ?_) #[true, true, true, true, true, true] rfl rfl (by kernel_rfl) (fun _ _ _ h => h) (Or.inl ⟨by rfl, ?_⟩) ?_ ?_
                          rotate_left
                          · intro w'
                            go_simp
                            with_reducible rfl
                          rotate_left
                          · simp only [Act.put, List.setIfInBounds_toArray, List.set_cons_zero, List.set_cons_succ, i64_w, i32_w]
                            rfl
                          refine done_ (by kernel_rfl) ?_
                          try go_wp2
                          refine bodyPost_ret (results_ct rfl _ _ gb156 69 #[.string (a0.extract 0 ((ji3) : Int).toNat), .string t159, .string t160, .string t158] (0, 0) _ rfl (by (with_reducible repeat (first | refine blk_drewN ?_ _ | refine blk_drew ?_ | refine blk_alloc ?_ _)); refine blk_put (cs := #[.string (a0.extract 0 ((ji3) : Int).toNat), .string t159, .string t160, .string t158]) ?_ 3 _ rfl; (with_reducible repeat (first | refine blk_drewN ?_ _ | refine blk_drew ?_ | refine blk_alloc ?_ _)); refine blk_put (cs := #[.string (a0.extract 0 ((ji3) : Int).toNat), .string t159, .string t160, .string t158]) ?_ 2 _ rfl; (with_reducible repeat (first | refine blk_drewN ?_ _ | refine blk_drew ?_ | refine blk_alloc ?_ _)); refine blk_put (cs := #[.string (a0.extract 0 ((ji3) : Int).toNat), .string t159, .string t160, .string t158]) ?_ 1 _ rfl; (with_reducible repeat (first | refine blk_drewN ?_ _ | refine blk_drew ?_ | refine blk_alloc ?_ _)); refine blk_put (cs := #[.string (a0.extract 0 ((ji3) : Int).toNat), .string t159, .string t160, .string t158]) ?_ 0 _ rfl; (with_reducible repeat (first | refine blk_drewN ?_ _ | refine blk_drew ?_ | refine blk_alloc ?_ _)); exact BK156.out) Tryz.underlying69 rfl (by kernel_rfl)) rfl ?_
                          exact ⟨by first | rfl | (simp [errW_none, errW_some] <;> rfl) | (simp only [← hji3, ← hji7]; first | rfl | (simp [errW_none, errW_some] <;> rfl)) | (simp [*, errW_none, errW_some] <;> rfl), by repeat (first | (with_reducible first | exact HB.out | apply below_alloc | apply pw_below_drewN | apply below_drew1 | refine below_set ?_ GE156.out) | exact HB.out)⟩
        · rw [if_neg c9] at H
          exact absurd H (by simp)
      · rw [if_neg c8] at H
        exact absurd H (by simp)
    · rw [if_neg c5] at H
      exact absurd H (by simp)
  · rw [if_neg c4] at H
    exact absurd H (by simp)

/-! ### cmp_isNaN_int64: function 106 -/
def cmp_isNaN_int64.f (a0 : Int) : Option (Bool) := some (a0 != a0)
set_option maxHeartbeats 8000000 in
set_option maxRecDepth 100000 in
theorem cmp_isNaN_int64.calls (a0 : Int) (r : Bool) (w : World) (HLD : Laid w) (h : cmp_isNaN_int64.f a0 = some r) :
    Calls Tryz.prog 106 #[.int .i64 a0] w fun e w' => e = .returned (.bool r) ∧ Drawn0 w w' := by
  have H : (some (a0 != a0)) = some r := h
  clear h
  obtain rfl := Option.some.inj H
  go_enter Tryz.func106, Tryz.ntmps106
  go_wp2
  go_ret
  exact ⟨by first | rfl | (simp; done) | (simp [*]; done), by repeat (first | exact Drawn0.refl _ | apply Drawn0.step)⟩

/-! ### cmp_Compare_int64: function 73 -/
def cmp_Compare_int64.f (a0 : Int) (a1 : Int) : Option (Int) := (cmp_isNaN_int64.f a0).bind fun t172 => ((cmp_isNaN_int64.f a1).bind fun t173 => (if t172 = true then (if t173 = true then (some 0) else (some (-1))) else (if t173 = true then (some 1) else (if a0 < a1 then (some (-1)) else (if a0 > a1 then (some 1) else (some 0))))))
set_option maxHeartbeats 8000000 in
set_option maxRecDepth 100000 in
theorem cmp_Compare_int64.calls (a0 : Int) (a1 : Int) (r : Int) (w : World) (HLD : Laid w) (h : cmp_Compare_int64.f a0 a1 = some r) :
    Calls Tryz.prog 73 #[.int .i64 a0, .int .i64 a1] w fun e w' => e = .returned (.int .i64 r) ∧ Drawn0 w w' := by
  have H : ((cmp_isNaN_int64.f a0).bind fun t172 => ((cmp_isNaN_int64.f a1).bind fun t173 => (if t172 = true then (if t173 = true then (some 0) else (some (-1))) else (if t173 = true then (some 1) else (if a0 < a1 then (some (-1)) else (if a0 > a1 then (some 1) else (some 0))))))) = some r := h
  clear h
  replace H := Option.bind_eq_some_iff.mp H
  obtain ⟨t172, A30, H⟩ := H
  replace H : ((cmp_isNaN_int64.f a1).bind fun t173 => (if t172 = true then (if t173 = true then (some 0) else (some (-1))) else (if t173 = true then (some 1) else (if a0 < a1 then (some (-1)) else (if a0 > a1 then (some 1) else (some 0)))))) = some r := H
  have A3 := Aside0.mk A30
  clear A30
  replace H := Option.bind_eq_some_iff.mp H
  obtain ⟨t173, A40, H⟩ := H
  replace H : (if t172 = true then (if t173 = true then (some 0) else (some (-1))) else (if t173 = true then (some 1) else (if a0 < a1 then (some (-1)) else (if a0 > a1 then (some 1) else (some 0))))) = some r := H
  have A4 := Aside0.mk A40
  clear A40
  by_cases c5 : t172 = true
  · subst c5
    have H1 : (if t173 = true then (some 0) else (some (-1))) = some r := by rw [if_pos rfl] at H; exact H
    clear H
    have H := H1
    clear H1
    by_cases c6 : t173 = true
    · subst c6
      have H1 : (some 0) = some r := by rw [if_pos rfl] at H; exact H
      clear H
      have H := H1
      clear H1
      obtain rfl := Option.some.inj H
      go_enter Tryz.func73, Tryz.ntmps73
      go_wp2_with (first | ((with_reducible refine gate_callee (f := 106) rfl ?_); refine goesL_ (some 8) rfl rfl Tryz.func106 (by kernel_rfl) rfl #[.int .i64 a0] rfl (by (try simp only [List.map_toArray, List.map_cons, List.map_nil]); first | done | rfl | (simp only [List.length_drop, List.length_take]; rfl)) ?_; (with_reducible refine (cmp_isNaN_int64.calls a0 true _ ?side1 A3.out).mono ?_); (case side1 => repeat (first | exact HLD | apply Laid.drewN | apply Laid.drew)); rintro e w' ⟨rfl, ⟨nd, rfl⟩⟩; refine ⟨_, rfl, ?_⟩) | ((with_reducible refine gate_callee (f := 106) rfl ?_); refine goesL_ (some 10) rfl rfl Tryz.func106 (by kernel_rfl) rfl #[.int .i64 a1] rfl (by (try simp only [List.map_toArray, List.map_cons, List.map_nil]); first | done | rfl | (simp only [List.length_drop, List.length_take]; rfl)) ?_; (with_reducible refine (cmp_isNaN_int64.calls a1 true _ ?side1 A4.out).mono ?_); (case side1 => repeat (first | exact HLD | apply Laid.drewN | apply Laid.drew)); rintro e w' ⟨rfl, ⟨nd, rfl⟩⟩; refine ⟨_, rfl, ?_⟩))
      go_ret
      exact ⟨by first | rfl | (simp; done) | (simp [*]; done), by repeat (first | exact Drawn0.refl _ | apply Drawn0.step)⟩
    · replace c6 := Bool.eq_false_iff.mpr c6
      subst c6
      have H1 : (some (-1)) = some r := by rw [if_neg (show ¬ (false = true) by decide)] at H; exact H
      clear H
      have H := H1
      clear H1
      obtain rfl := Option.some.inj H
      go_enter Tryz.func73, Tryz.ntmps73
      go_wp2_with (first | ((with_reducible refine gate_callee (f := 106) rfl ?_); refine goesL_ (some 8) rfl rfl Tryz.func106 (by kernel_rfl) rfl #[.int .i64 a0] rfl (by (try simp only [List.map_toArray, List.map_cons, List.map_nil]); first | done | rfl | (simp only [List.length_drop, List.length_take]; rfl)) ?_; (with_reducible refine (cmp_isNaN_int64.calls a0 true _ ?side1 A3.out).mono ?_); (case side1 => repeat (first | exact HLD | apply Laid.drewN | apply Laid.drew)); rintro e w' ⟨rfl, ⟨nd, rfl⟩⟩; refine ⟨_, rfl, ?_⟩) | ((with_reducible refine gate_callee (f := 106) rfl ?_); refine goesL_ (some 10) rfl rfl Tryz.func106 (by kernel_rfl) rfl #[.int .i64 a1] rfl (by (try simp only [List.map_toArray, List.map_cons, List.map_nil]); first | done | rfl | (simp only [List.length_drop, List.length_take]; rfl)) ?_; (with_reducible refine (cmp_isNaN_int64.calls a1 false _ ?side1 A4.out).mono ?_); (case side1 => repeat (first | exact HLD | apply Laid.drewN | apply Laid.drew)); rintro e w' ⟨rfl, ⟨nd, rfl⟩⟩; refine ⟨_, rfl, ?_⟩))
      go_ret
      exact ⟨by first | rfl | (simp; done) | (simp [*]; done), by repeat (first | exact Drawn0.refl _ | apply Drawn0.step)⟩
  · replace c5 := Bool.eq_false_iff.mpr c5
    subst c5
    have H1 : (if t173 = true then (some 1) else (if a0 < a1 then (some (-1)) else (if a0 > a1 then (some 1) else (some 0)))) = some r := by rw [if_neg (show ¬ (false = true) by decide)] at H; exact H
    clear H
    have H := H1
    clear H1
    by_cases c7 : t173 = true
    · subst c7
      have H1 : (some 1) = some r := by rw [if_pos rfl] at H; exact H
      clear H
      have H := H1
      clear H1
      obtain rfl := Option.some.inj H
      go_enter Tryz.func73, Tryz.ntmps73
      go_wp2_with (first | ((with_reducible refine gate_callee (f := 106) rfl ?_); refine goesL_ (some 8) rfl rfl Tryz.func106 (by kernel_rfl) rfl #[.int .i64 a0] rfl (by (try simp only [List.map_toArray, List.map_cons, List.map_nil]); first | done | rfl | (simp only [List.length_drop, List.length_take]; rfl)) ?_; (with_reducible refine (cmp_isNaN_int64.calls a0 false _ ?side1 A3.out).mono ?_); (case side1 => repeat (first | exact HLD | apply Laid.drewN | apply Laid.drew)); rintro e w' ⟨rfl, ⟨nd, rfl⟩⟩; refine ⟨_, rfl, ?_⟩) | ((with_reducible refine gate_callee (f := 106) rfl ?_); refine goesL_ (some 10) rfl rfl Tryz.func106 (by kernel_rfl) rfl #[.int .i64 a1] rfl (by (try simp only [List.map_toArray, List.map_cons, List.map_nil]); first | done | rfl | (simp only [List.length_drop, List.length_take]; rfl)) ?_; (with_reducible refine (cmp_isNaN_int64.calls a1 true _ ?side1 A4.out).mono ?_); (case side1 => repeat (first | exact HLD | apply Laid.drewN | apply Laid.drew)); rintro e w' ⟨rfl, ⟨nd, rfl⟩⟩; refine ⟨_, rfl, ?_⟩))
      go_ret
      exact ⟨by first | rfl | (simp; done) | (simp [*]; done), by repeat (first | exact Drawn0.refl _ | apply Drawn0.step)⟩
    · replace c7 := Bool.eq_false_iff.mpr c7
      subst c7
      have H1 : (if a0 < a1 then (some (-1)) else (if a0 > a1 then (some 1) else (some 0))) = some r := by rw [if_neg (show ¬ (false = true) by decide)] at H; exact H
      clear H
      have H := H1
      clear H1
      by_cases c8 : a0 < a1
      · rw [if_pos c8] at H
        have c8b0 : decide (a0 < a1) = true := decide_eq_true c8
        clear c8
        obtain rfl := Option.some.inj H
        go_enter Tryz.func73, Tryz.ntmps73
        go_wp2_with (first | ((with_reducible refine gate_callee (f := 106) rfl ?_); refine goesL_ (some 8) rfl rfl Tryz.func106 (by kernel_rfl) rfl #[.int .i64 a0] rfl (by (try simp only [List.map_toArray, List.map_cons, List.map_nil]); first | done | rfl | (simp only [List.length_drop, List.length_take]; rfl)) ?_; (with_reducible refine (cmp_isNaN_int64.calls a0 false _ ?side1 A3.out).mono ?_); (case side1 => repeat (first | exact HLD | apply Laid.drewN | apply Laid.drew)); rintro e w' ⟨rfl, ⟨nd, rfl⟩⟩; refine ⟨_, rfl, ?_⟩) | ((with_reducible refine gate_callee (f := 106) rfl ?_); refine goesL_ (some 10) rfl rfl Tryz.func106 (by kernel_rfl) rfl #[.int .i64 a1] rfl (by (try simp only [List.map_toArray, List.map_cons, List.map_nil]); first | done | rfl | (simp only [List.length_drop, List.length_take]; rfl)) ?_; (with_reducible refine (cmp_isNaN_int64.calls a1 false _ ?side1 A4.out).mono ?_); (case side1 => repeat (first | exact HLD | apply Laid.drewN | apply Laid.drew)); rintro e w' ⟨rfl, ⟨nd, rfl⟩⟩; refine ⟨_, rfl, ?_⟩))
        go_ret
        exact ⟨by first | rfl | (simp; done) | (simp [*]; done), by repeat (first | exact Drawn0.refl _ | apply Drawn0.step)⟩
      · rw [if_neg c8] at H
        have c8b0 : decide (a0 < a1) = false := decide_eq_false c8
        clear c8
        by_cases c9 : a0 > a1
        · rw [if_pos c9] at H
          have c9b0 : decide (a1 < a0) = true := decide_eq_true c9
          clear c9
          obtain rfl := Option.some.inj H
          go_enter Tryz.func73, Tryz.ntmps73
          go_wp2_with (first | ((with_reducible refine gate_callee (f := 106) rfl ?_); refine goesL_ (some 8) rfl rfl Tryz.func106 (by kernel_rfl) rfl #[.int .i64 a0] rfl (by (try simp only [List.map_toArray, List.map_cons, List.map_nil]); first | done | rfl | (simp only [List.length_drop, List.length_take]; rfl)) ?_; (with_reducible refine (cmp_isNaN_int64.calls a0 false _ ?side1 A3.out).mono ?_); (case side1 => repeat (first | exact HLD | apply Laid.drewN | apply Laid.drew)); rintro e w' ⟨rfl, ⟨nd, rfl⟩⟩; refine ⟨_, rfl, ?_⟩) | ((with_reducible refine gate_callee (f := 106) rfl ?_); refine goesL_ (some 10) rfl rfl Tryz.func106 (by kernel_rfl) rfl #[.int .i64 a1] rfl (by (try simp only [List.map_toArray, List.map_cons, List.map_nil]); first | done | rfl | (simp only [List.length_drop, List.length_take]; rfl)) ?_; (with_reducible refine (cmp_isNaN_int64.calls a1 false _ ?side1 A4.out).mono ?_); (case side1 => repeat (first | exact HLD | apply Laid.drewN | apply Laid.drew)); rintro e w' ⟨rfl, ⟨nd, rfl⟩⟩; refine ⟨_, rfl, ?_⟩))
          go_ret
          exact ⟨by first | rfl | (simp; done) | (simp [*]; done), by repeat (first | exact Drawn0.refl _ | apply Drawn0.step)⟩
        · rw [if_neg c9] at H
          have c9b0 : decide (a1 < a0) = false := decide_eq_false c9
          clear c9
          obtain rfl := Option.some.inj H
          go_enter Tryz.func73, Tryz.ntmps73
          go_wp2_with (first | ((with_reducible refine gate_callee (f := 106) rfl ?_); refine goesL_ (some 8) rfl rfl Tryz.func106 (by kernel_rfl) rfl #[.int .i64 a0] rfl (by (try simp only [List.map_toArray, List.map_cons, List.map_nil]); first | done | rfl | (simp only [List.length_drop, List.length_take]; rfl)) ?_; (with_reducible refine (cmp_isNaN_int64.calls a0 false _ ?side1 A3.out).mono ?_); (case side1 => repeat (first | exact HLD | apply Laid.drewN | apply Laid.drew)); rintro e w' ⟨rfl, ⟨nd, rfl⟩⟩; refine ⟨_, rfl, ?_⟩) | ((with_reducible refine gate_callee (f := 106) rfl ?_); refine goesL_ (some 10) rfl rfl Tryz.func106 (by kernel_rfl) rfl #[.int .i64 a1] rfl (by (try simp only [List.map_toArray, List.map_cons, List.map_nil]); first | done | rfl | (simp only [List.length_drop, List.length_take]; rfl)) ?_; (with_reducible refine (cmp_isNaN_int64.calls a1 false _ ?side1 A4.out).mono ?_); (case side1 => repeat (first | exact HLD | apply Laid.drewN | apply Laid.drew)); rintro e w' ⟨rfl, ⟨nd, rfl⟩⟩; refine ⟨_, rfl, ?_⟩))
          go_ret
          exact ⟨by first | rfl | (simp; done) | (simp [*]; done), by repeat (first | exact Drawn0.refl _ | apply Drawn0.step)⟩

/-! ### xnum_sign: function 37 -/
def xnum_sign.f (a0_0 : Int) (a0_1 : Int) : Option (Int) := if a0_0 = 2 then (some 1) else (if a0_0 = 3 then (some (-1)) else ((cmp_Compare_int64.f a0_1 0).bind fun t175 => (some t175)))
set_option maxHeartbeats 8000000 in
set_option maxRecDepth 100000 in
theorem xnum_sign.calls (a0_0 : Int) (a0_1 : Int) (r : Int) (w : World) (HLD : Laid w) (h : xnum_sign.f a0_0 a0_1 = some r) :
    Calls Tryz.prog 37 #[.agg #[.int .i64 a0_0, .int .i64 a0_1]] w fun e w' => e = .returned (.int .i64 r) ∧ Below w.heap.size w w' := by
  have hu24 := Tryz.underlying24
  have HB := Aside0.mk (Below.refl w.heap.size w)
  have H : (if a0_0 = 2 then (some 1) else (if a0_0 = 3 then (some (-1)) else ((cmp_Compare_int64.f a0_1 0).bind fun t175 => (some t175)))) = some r := h
  clear h
  by_cases c2 : a0_0 = 2
  · rw [if_pos c2] at H
    have c2b0 : (a0_0 == 2) = true := beq_iff_eq.mpr c2
    have c2b1 : (a0_0 != 2) = false := bne_eq_false_iff_eq.mpr c2
    clear c2
    obtain rfl := Option.some.inj H
    go_enter Tryz.func37, Tryz.ntmps37
    go_wp2_with (first | ((with_reducible refine gate_dst (N := 1) rfl ?_); refine box_event ?hg (N := 1) ?hd (cs := #[.int .i64 a0_0, .int .i64 a0_1]) (t := 24) ?hr ?_; (case hd => rfl); (case hg => rfl); (case hr => first | (go_simp; done) | (go_simp; rfl)); intro gb174 hg w3 hbox hb; have n0_ := Aside0.mk (below_step (by repeat (first | (with_reducible first | exact HB.out | apply below_alloc | apply pw_below_drewN | apply below_drew1) | exact HB.out)) hb); have n1_ := Aside0.mk (hbox); have n2_ := Aside0.mk ((by rw [hg]; exact (below_size (by repeat (first | (with_reducible first | exact HB.out | apply below_alloc | apply pw_below_drewN | apply below_drew1) | exact HB.out))) : w.heap.size ≤ gb174)); have n3_ := Aside0.mk ((by rw [hg]; exact (below_size (by repeat (first | (with_reducible first | exact HB.out | apply below_alloc | apply pw_below_drewN | apply below_drew1) | exact HB.out))) : w.heap.size ≤ gb174)); clear HB; have HB := n0_; have BK174 := n1_; have GW174 := n2_; have GE174 := n3_; clear n0_ n1_ n2_ n3_; clear hb hbox hg; have hcz4_0 : w3.cell? ⟨gb174, 0, none⟩ = some (.int .i64 a0_0) := (blk_cell BK174.out 0).trans rfl; have hcz4_1 : w3.cell? ⟨gb174, 1, none⟩ = some (.int .i64 a0_1) := (blk_cell BK174.out 1).trans rfl; have hfz4_0 := blk_frozen BK174.out 0; have hfz4_1 := blk_frozen BK174.out 1))
    go_ret
    exact ⟨by first | rfl | (simp [errW_none, errW_some] <;> rfl) | (simp [*, errW_none, errW_some] <;> rfl), by repeat (first | (with_reducible first | exact HB.out | apply below_alloc | apply pw_below_drewN | apply below_drew1 | refine below_set ?_ GE174.out) | exact HB.out)⟩
  · rw [if_neg c2] at H
    have c2b0 : (a0_0 == 2) = false := beq_eq_false_iff_ne.mpr c2
    have c2b1 : (a0_0 != 2) = true := bne_iff_ne.mpr c2
    by_cases c5 : a0_0 = 3
    · rw [if_pos c5] at H
      have c5b0 : (a0_0 == 3) = true := beq_iff_eq.mpr c5
      have c5b1 : (a0_0 != 3) = false := bne_eq_false_iff_eq.mpr c5
      clear c5
      obtain rfl := Option.some.inj H
      go_enter Tryz.func37, Tryz.ntmps37
      go_wp2_with (first | ((with_reducible refine gate_dst (N := 1) rfl ?_); refine box_event ?hg (N := 1) ?hd (cs := #[.int .i64 a0_0, .int .i64 a0_1]) (t := 24) ?hr ?_; (case hd => rfl); (case hg => rfl); (case hr => first | (go_simp; done) | (go_simp; rfl)); intro gb174 hg w6 hbox hb; have n0_ := Aside0.mk (below_step (by repeat (first | (with_reducible first | exact HB.out | apply below_alloc | apply pw_below_drewN | apply below_drew1) | exact HB.out)) hb); have n1_ := Aside0.mk (hbox); have n2_ := Aside0.mk ((by rw [hg]; exact (below_size (by repeat (first | (with_reducible first | exact HB.out | apply below_alloc | apply pw_below_drewN | apply below_drew1) | exact HB.out))) : w.heap.size ≤ gb174)); have n3_ := Aside0.mk ((by rw [hg]; exact (below_size (by repeat (first | (with_reducible first | exact HB.out | apply below_alloc | apply pw_below_drewN | apply below_drew1) | exact HB.out))) : w.heap.size ≤ gb174)); clear HB; have HB := n0_; have BK174 := n1_; have GW174 := n2_; have GE174 := n3_; clear n0_ n1_ n2_ n3_; clear hb hbox hg; have hcz7_0 : w6.cell? ⟨gb174, 0, none⟩ = some (.int .i64 a0_0) := (blk_cell BK174.out 0).trans rfl; have hcz7_1 : w6.cell? ⟨gb174, 1, none⟩ = some (.int .i64 a0_1) := (blk_cell BK174.out 1).trans rfl; have hfz7_0 := blk_frozen BK174.out 0; have hfz7_1 := blk_frozen BK174.out 1))
      go_ret
      exact ⟨by first | rfl | (simp [errW_none, errW_some] <;> rfl) | (simp [*, errW_none, errW_some] <;> rfl), by repeat (first | (with_reducible first | exact HB.out | apply below_alloc | apply pw_below_drewN | apply below_drew1 | refine below_set ?_ GE174.out) | exact HB.out)⟩
    · rw [if_neg c5] at H
      have c5b0 : (a0_0 == 3) = false := beq_eq_false_iff_ne.mpr c5
      have c5b1 : (a0_0 != 3) = true := bne_iff_ne.mpr c5
      replace H := Option.bind_eq_some_iff.mp H
      obtain ⟨t175, A80, H⟩ := H
      replace H : (some t175) = some r := H
      have A8 := Aside0.mk A80
      clear A80
      obtain rfl := Option.some.inj H
      go_enter Tryz.func37, Tryz.ntmps37
      go_wp2_with (first | ((with_reducible refine gate_dst (N := 1) rfl ?_); refine box_event ?hg (N := 1) ?hd (cs := #[.int .i64 a0_0, .int .i64 a0_1]) (t := 24) ?hr ?_; (case hd => rfl); (case hg => rfl); (case hr => first | (go_simp; done) | (go_simp; rfl)); intro gb174 hg w9 hbox hb; have n0_ := Aside0.mk (below_step (by repeat (first | (with_reducible first | exact HB.out | apply below_alloc | apply pw_below_drewN | apply below_drew1) | exact HB.out)) hb); have n1_ := Aside0.mk (hbox); have n2_ := Aside0.mk ((by rw [hg]; exact (below_size (by repeat (first | (with_reducible first | exact HB.out | apply below_alloc | apply pw_below_drewN | apply below_drew1) | exact HB.out))) : w.heap.size ≤ gb174)); have n3_ := Aside0.mk ((by rw [hg]; exact (below_size (by repeat (first | (with_reducible first | exact HB.out | apply below_alloc | apply pw_below_drewN | apply below_drew1) | exact HB.out))) : w.heap.size ≤ gb174)); clear HB; have HB := n0_; have BK174 := n1_; have GW174 := n2_; have GE174 := n3_; clear n0_ n1_ n2_ n3_; clear hb hbox hg; have hcz10_0 : w9.cell? ⟨gb174, 0, none⟩ = some (.int .i64 a0_0) := (blk_cell BK174.out 0).trans rfl; have hcz10_1 : w9.cell? ⟨gb174, 1, none⟩ = some (.int .i64 a0_1) := (blk_cell BK174.out 1).trans rfl; have hfz10_0 := blk_frozen BK174.out 0; have hfz10_1 := blk_frozen BK174.out 1) | ((with_reducible refine gate_callee (f := 73) rfl ?_); refine goesL_ (some 11) rfl rfl Tryz.func73 (by kernel_rfl) rfl #[.int .i64 a0_1, .int .i64 0] rfl (by (try simp only [List.map_toArray, List.map_cons, List.map_nil]); first | done | rfl | (simp only [List.length_drop, List.length_take]; rfl)) ?_; (with_reducible refine (cmp_Compare_int64.calls a0_1 0 t175 _ ?side1 A8.out).mono ?_); (case side1 => first | exact HLD | exact Laid.below HLD (by repeat (first | (with_reducible first | exact HB.out | apply below_alloc | apply pw_below_drewN | apply below_drew1 | refine below_set ?_ GE174.out) | exact HB.out))); rintro e w' ⟨rfl, ⟨nd, rfl⟩⟩; refine ⟨_, rfl, ?_⟩))
      go_ret
      exact ⟨by first | rfl | (simp [errW_none, errW_some] <;> rfl) | (simp [*, errW_none, errW_some] <;> rfl), by repeat (first | (with_reducible first | exact HB.out | apply below_alloc | apply pw_below_drewN | apply below_drew1 | refine below_set ?_ GE174.out) | exact HB.out)⟩

end Go.Proofs.YthedigbdkjcpfaaGreatDoor.Print

-- CELLS ANEW
