-- Laid by xprint.py (ours), out of the seat's translation; Lean checks it.
import Derived.Test.YtfbmojnndbbojaaGreatDoorPrint0
import Derived.Test.YtfbmojnndbbojaaGreatDoorPrintf23
namespace Go.Proofs.YtfbmojnndbbojaaGreatDoor.Print
open Go.RowKit Go.Proofs.YtfbmojnndbbojaaGreatDoorW.PrintWords Go.Proofs.YtfbmojnndbbojaaGreatDoorW.PrintLast Go.Proofs.YtfbmojnndbbojaaGreatDoorW.PrintMore
attribute [local go_sem] max2_int min2_int max_two min_two max_three min_three max_four min_four   -- for this text's walks alone
open Go.Proofs.YtfbmojnndbbojaaGreatDoor.Plain
set_option linter.unusedVariables false
set_option linter.unusedSimpArgs false

/-! ### stencilref02_Parse: function 45 -/
mutual
def stencilref02_Parse.j1 : Nat → ByteArray → Option (Int × Int)
  | 0, _ => none
  | k + 1, x0 => stencilref02_Parse.l1 k x0
def stencilref02_Parse.j3 : Nat → ByteArray → Option (Int × Int)
  | 0, _ => none
  | k + 1, x0 => if (x0.size : Int) > 0 then (if 0 < (x0.size : Int) then (stencilref02_Parse.j4 k x0 ((bt x0 0) == 45)) else (none)) else (stencilref02_Parse.j4 k x0 false)
def stencilref02_Parse.j4 : Nat → ByteArray → Bool → Option (Int × Int)
  | 0, _, _ => none
  | k + 1, x0, x3 => if x3 = true then (if 1 ≤ (x0.size : Int) then (stencilref02_Parse.j5 k (x0.extract 1 x0.size) x3) else (none)) else (stencilref02_Parse.j5 k x0 x3)
def stencilref02_Parse.j5 : Nat → ByteArray → Bool → Option (Int × Int)
  | 0, _, _ => none
  | k + 1, x0, x3 => stencilref02_Parse.l2 k x0 x3 0 0 false false false 0
def stencilref02_Parse.l2 : Nat → ByteArray → Bool → Int → Int → Bool → Bool → Bool → Int → Option (Int × Int)
  | 0, _, _, _, _, _, _, _, _ => none
  | k + 1, x0, x3, x4, x5, x6, x7, x8, x9 => if x9 < (x0.size : Int) then (if 0 ≤ x9 then (if (bt x0 x9) = 46 then (stencilref02_Parse.j7 k x0 x3 x4 x5 x6 x7 x8 x9 (!x6)) else (stencilref02_Parse.j7 k x0 x3 x4 x5 x6 x7 x8 x9 false)) else (none)) else (if x7 = true then (if x8 = true then ((stencilref02_Inf.f x3).bind fun bt260 => (some (bt260.1, bt260.2))) else (stencilref02_Parse.l3 k x3 x4 x5)) else ((stencilref02_Nan.f).bind fun bt258 => (some (bt258.1, bt258.2))))
def stencilref02_Parse.j7 : Nat → ByteArray → Bool → Int → Int → Bool → Bool → Bool → Int → Bool → Option (Int × Int)
  | 0, _, _, _, _, _, _, _, _, _ => none
  | k + 1, x0, x3, x4, x5, x6, x7, x8, x9, x53 => if x53 = true then (stencilref02_Parse.l2 k x0 x3 x4 x5 true x7 x8 (wrap64 (x9 + 1))) else (if 0 ≤ x9 then (if x9 < (x0.size : Int) then (if (bt x0 x9) < 48 then ((stencilref02_Nan.f).bind fun bt254 => (some (bt254.1, bt254.2))) else (if (bt x0 x9) > 57 then ((stencilref02_Nan.f).bind fun bt256 => (some (bt256.1, bt256.2))) else (if x6 = true then (if (wrap64 (x5 + 1)) ≤ 6 then (if x8 = true then (stencilref02_Parse.l2 k x0 x3 x4 (wrap64 (x5 + 1)) x6 true x8 (wrap64 (x9 + 1))) else (stencilref02_Parse.l2 k x0 x3 (IntKind.u64.wrap ((IntKind.u64.wrap (x4 * 10)) + (((bt x0 x9) - 48) % 256))) (wrap64 (x5 + 1)) x6 true (decide ((IntKind.u64.wrap ((IntKind.u64.wrap (x4 * 10)) + (((bt x0 x9) - 48) % 256))) > 1000000000000000000)) (wrap64 (x9 + 1)))) else (stencilref02_Parse.l2 k x0 x3 x4 (wrap64 (x5 + 1)) x6 true x8 (wrap64 (x9 + 1)))) else (if x5 ≤ 6 then (if x8 = true then (stencilref02_Parse.l2 k x0 x3 x4 x5 x6 true x8 (wrap64 (x9 + 1))) else (stencilref02_Parse.l2 k x0 x3 (IntKind.u64.wrap ((IntKind.u64.wrap (x4 * 10)) + (((bt x0 x9) - 48) % 256))) x5 x6 true (decide ((IntKind.u64.wrap ((IntKind.u64.wrap (x4 * 10)) + (((bt x0 x9) - 48) % 256))) > 1000000000000000000)) (wrap64 (x9 + 1)))) else (stencilref02_Parse.l2 k x0 x3 x4 x5 x6 true x8 (wrap64 (x9 + 1))))))) else (none)) else (none))
def stencilref02_Parse.l3 : Nat → Bool → Int → Int → Option (Int × Int)
  | 0, _, _, _ => none
  | k + 1, x3, x4, x5 => if x5 < 6 then (if x4 > 100000000000000000 then ((stencilref02_Inf.f x3).bind fun bt262 => (some (bt262.1, bt262.2))) else (stencilref02_Parse.l3 k x3 (IntKind.u64.wrap (x4 * 10)) (wrap64 (x5 + 1)))) else ((stencilref02_made.f k x4 x3 false).bind fun bt264 => (some (bt264.1, bt264.2)))
def stencilref02_Parse.l1 : Nat → ByteArray → Option (Int × Int)
  | 0, _ => none
  | k + 1, x0 => if (x0.size : Int) > 0 then (if 0 ≤ (wrap64 ((x0.size : Int) - 1)) then (if (wrap64 ((x0.size : Int) - 1)) < (x0.size : Int) then ((stencilref02_blank.f (bt x0 (wrap64 ((x0.size : Int) - 1)))).bind fun t253 => (if t253 = true then (if (wrap64 ((x0.size : Int) - 1)) ≤ (x0.size : Int) then (stencilref02_Parse.l1 k (x0.extract 0 ((wrap64 ((x0.size : Int) - 1)) : Int).toNat)) else (none)) else (stencilref02_Parse.j3 k x0))) else (none)) else (none)) else (stencilref02_Parse.j3 k x0)
def stencilref02_Parse.l0 : Nat → ByteArray → Option (Int × Int)
  | 0, _ => none
  | k + 1, x0 => if (x0.size : Int) > 0 then (if 0 < (x0.size : Int) then ((stencilref02_blank.f (bt x0 0)).bind fun t252 => (if t252 = true then (if 1 ≤ (x0.size : Int) then (stencilref02_Parse.l0 k (x0.extract 1 x0.size)) else (none)) else (stencilref02_Parse.j1 k x0))) else (none)) else (stencilref02_Parse.j1 k x0)
end
def stencilref02_Parse.f (k : Nat) (a0 : ByteArray) : Option (Int × Int) := stencilref02_Parse.l0 k a0
theorem stencilref02_Parse.mono_l : ∀ k, (∀ y0, LeO (stencilref02_Parse.j1 k y0) (stencilref02_Parse.j1 (k + 1) y0)) ∧ (∀ y0, LeO (stencilref02_Parse.j3 k y0) (stencilref02_Parse.j3 (k + 1) y0)) ∧ (∀ y0 y1, LeO (stencilref02_Parse.j4 k y0 y1) (stencilref02_Parse.j4 (k + 1) y0 y1)) ∧ (∀ y0 y1, LeO (stencilref02_Parse.j5 k y0 y1) (stencilref02_Parse.j5 (k + 1) y0 y1)) ∧ (∀ y0 y1 y2 y3 y4 y5 y6 y7, LeO (stencilref02_Parse.l2 k y0 y1 y2 y3 y4 y5 y6 y7) (stencilref02_Parse.l2 (k + 1) y0 y1 y2 y3 y4 y5 y6 y7)) ∧ (∀ y0 y1 y2 y3 y4 y5 y6 y7 y8, LeO (stencilref02_Parse.j7 k y0 y1 y2 y3 y4 y5 y6 y7 y8) (stencilref02_Parse.j7 (k + 1) y0 y1 y2 y3 y4 y5 y6 y7 y8)) ∧ (∀ y0 y1 y2, LeO (stencilref02_Parse.l3 k y0 y1 y2) (stencilref02_Parse.l3 (k + 1) y0 y1 y2)) ∧ (∀ y0, LeO (stencilref02_Parse.l1 k y0) (stencilref02_Parse.l1 (k + 1) y0)) ∧ (∀ y0, LeO (stencilref02_Parse.l0 k y0) (stencilref02_Parse.l0 (k + 1) y0))
  | 0 => ⟨fun _ r h => by simp [stencilref02_Parse.j1] at h, fun _ r h => by simp [stencilref02_Parse.j3] at h, fun _ _ r h => by simp [stencilref02_Parse.j4] at h, fun _ _ r h => by simp [stencilref02_Parse.j5] at h, fun _ _ _ _ _ _ _ _ r h => by simp [stencilref02_Parse.l2] at h, fun _ _ _ _ _ _ _ _ _ r h => by simp [stencilref02_Parse.j7] at h, fun _ _ _ r h => by simp [stencilref02_Parse.l3] at h, fun _ r h => by simp [stencilref02_Parse.l1] at h, fun _ r h => by simp [stencilref02_Parse.l0] at h⟩
  | k + 1 => by
    obtain ⟨ih0, ih1, ih2, ih3, ih4, ih5, ih6, ih7, ih8⟩ := stencilref02_Parse.mono_l k
    refine ⟨?_, ?_, ?_, ?_, ?_, ?_, ?_, ?_, ?_⟩
    · intro y0
      unfold stencilref02_Parse.j1
      repeat' first
      | (with_reducible exact ih0 _)
      | (with_reducible exact ih1 _)
      | (with_reducible exact ih2 _ _)
      | (with_reducible exact ih3 _ _)
      | (with_reducible exact ih4 _ _ _ _ _ _ _ _)
      | (with_reducible exact ih5 _ _ _ _ _ _ _ _ _)
      | (with_reducible exact ih6 _ _ _)
      | (with_reducible exact ih7 _)
      | (with_reducible exact ih8 _)
      | (with_reducible exact stencilref02_made.mono _ _ _ _)
      | (with_reducible exact LeO.refl _)
      | (with_reducible exact LeO.none _)
      | (with_reducible refine LeO.ite ?_ ?_)
      | (with_reducible refine LeO.bind ?_ (fun _ => ?_))
      | exact ih0 _
      | exact ih1 _
      | exact ih2 _ _
      | exact ih3 _ _
      | exact ih4 _ _ _ _ _ _ _ _
      | exact ih5 _ _ _ _ _ _ _ _ _
      | exact ih6 _ _ _
      | exact ih7 _
      | exact ih8 _
      | exact stencilref02_made.mono _ _ _ _
      | exact LeO.none _
      | refine LeO.ite ?_ ?_
      | refine LeO.bind ?_ (fun _ => ?_)
    · intro y0
      unfold stencilref02_Parse.j3
      repeat' first
      | (with_reducible exact ih0 _)
      | (with_reducible exact ih1 _)
      | (with_reducible exact ih2 _ _)
      | (with_reducible exact ih3 _ _)
      | (with_reducible exact ih4 _ _ _ _ _ _ _ _)
      | (with_reducible exact ih5 _ _ _ _ _ _ _ _ _)
      | (with_reducible exact ih6 _ _ _)
      | (with_reducible exact ih7 _)
      | (with_reducible exact ih8 _)
      | (with_reducible exact stencilref02_made.mono _ _ _ _)
      | (with_reducible exact LeO.refl _)
      | (with_reducible exact LeO.none _)
      | (with_reducible refine LeO.ite ?_ ?_)
      | (with_reducible refine LeO.bind ?_ (fun _ => ?_))
      | exact ih0 _
      | exact ih1 _
      | exact ih2 _ _
      | exact ih3 _ _
      | exact ih4 _ _ _ _ _ _ _ _
      | exact ih5 _ _ _ _ _ _ _ _ _
      | exact ih6 _ _ _
      | exact ih7 _
      | exact ih8 _
      | exact stencilref02_made.mono _ _ _ _
      | exact LeO.none _
      | refine LeO.ite ?_ ?_
      | refine LeO.bind ?_ (fun _ => ?_)
    · intro y0 y1
      unfold stencilref02_Parse.j4
      repeat' first
      | (with_reducible exact ih0 _)
      | (with_reducible exact ih1 _)
      | (with_reducible exact ih2 _ _)
      | (with_reducible exact ih3 _ _)
      | (with_reducible exact ih4 _ _ _ _ _ _ _ _)
      | (with_reducible exact ih5 _ _ _ _ _ _ _ _ _)
      | (with_reducible exact ih6 _ _ _)
      | (with_reducible exact ih7 _)
      | (with_reducible exact ih8 _)
      | (with_reducible exact stencilref02_made.mono _ _ _ _)
      | (with_reducible exact LeO.refl _)
      | (with_reducible exact LeO.none _)
      | (with_reducible refine LeO.ite ?_ ?_)
      | (with_reducible refine LeO.bind ?_ (fun _ => ?_))
      | exact ih0 _
      | exact ih1 _
      | exact ih2 _ _
      | exact ih3 _ _
      | exact ih4 _ _ _ _ _ _ _ _
      | exact ih5 _ _ _ _ _ _ _ _ _
      | exact ih6 _ _ _
      | exact ih7 _
      | exact ih8 _
      | exact stencilref02_made.mono _ _ _ _
      | exact LeO.none _
      | refine LeO.ite ?_ ?_
      | refine LeO.bind ?_ (fun _ => ?_)
    · intro y0 y1
      unfold stencilref02_Parse.j5
      repeat' first
      | (with_reducible exact ih0 _)
      | (with_reducible exact ih1 _)
      | (with_reducible exact ih2 _ _)
      | (with_reducible exact ih3 _ _)
      | (with_reducible exact ih4 _ _ _ _ _ _ _ _)
      | (with_reducible exact ih5 _ _ _ _ _ _ _ _ _)
      | (with_reducible exact ih6 _ _ _)
      | (with_reducible exact ih7 _)
      | (with_reducible exact ih8 _)
      | (with_reducible exact stencilref02_made.mono _ _ _ _)
      | (with_reducible exact LeO.refl _)
      | (with_reducible exact LeO.none _)
      | (with_reducible refine LeO.ite ?_ ?_)
      | (with_reducible refine LeO.bind ?_ (fun _ => ?_))
      | exact ih0 _
      | exact ih1 _
      | exact ih2 _ _
      | exact ih3 _ _
      | exact ih4 _ _ _ _ _ _ _ _
      | exact ih5 _ _ _ _ _ _ _ _ _
      | exact ih6 _ _ _
      | exact ih7 _
      | exact ih8 _
      | exact stencilref02_made.mono _ _ _ _
      | exact LeO.none _
      | refine LeO.ite ?_ ?_
      | refine LeO.bind ?_ (fun _ => ?_)
    · intro y0 y1 y2 y3 y4 y5 y6 y7
      unfold stencilref02_Parse.l2
      repeat' first
      | (with_reducible exact ih0 _)
      | (with_reducible exact ih1 _)
      | (with_reducible exact ih2 _ _)
      | (with_reducible exact ih3 _ _)
      | (with_reducible exact ih4 _ _ _ _ _ _ _ _)
      | (with_reducible exact ih5 _ _ _ _ _ _ _ _ _)
      | (with_reducible exact ih6 _ _ _)
      | (with_reducible exact ih7 _)
      | (with_reducible exact ih8 _)
      | (with_reducible exact stencilref02_made.mono _ _ _ _)
      | (with_reducible exact LeO.refl _)
      | (with_reducible exact LeO.none _)
      | (with_reducible refine LeO.ite ?_ ?_)
      | (with_reducible refine LeO.bind ?_ (fun _ => ?_))
      | exact ih0 _
      | exact ih1 _
      | exact ih2 _ _
      | exact ih3 _ _
      | exact ih4 _ _ _ _ _ _ _ _
      | exact ih5 _ _ _ _ _ _ _ _ _
      | exact ih6 _ _ _
      | exact ih7 _
      | exact ih8 _
      | exact stencilref02_made.mono _ _ _ _
      | exact LeO.none _
      | refine LeO.ite ?_ ?_
      | refine LeO.bind ?_ (fun _ => ?_)
    · intro y0 y1 y2 y3 y4 y5 y6 y7 y8
      unfold stencilref02_Parse.j7
      repeat' first
      | (with_reducible exact ih0 _)
      | (with_reducible exact ih1 _)
      | (with_reducible exact ih2 _ _)
      | (with_reducible exact ih3 _ _)
      | (with_reducible exact ih4 _ _ _ _ _ _ _ _)
      | (with_reducible exact ih5 _ _ _ _ _ _ _ _ _)
      | (with_reducible exact ih6 _ _ _)
      | (with_reducible exact ih7 _)
      | (with_reducible exact ih8 _)
      | (with_reducible exact stencilref02_made.mono _ _ _ _)
      | (with_reducible exact LeO.refl _)
      | (with_reducible exact LeO.none _)
      | (with_reducible refine LeO.ite ?_ ?_)
      | (with_reducible refine LeO.bind ?_ (fun _ => ?_))
      | exact ih0 _
      | exact ih1 _
      | exact ih2 _ _
      | exact ih3 _ _
      | exact ih4 _ _ _ _ _ _ _ _
      | exact ih5 _ _ _ _ _ _ _ _ _
      | exact ih6 _ _ _
      | exact ih7 _
      | exact ih8 _
      | exact stencilref02_made.mono _ _ _ _
      | exact LeO.none _
      | refine LeO.ite ?_ ?_
      | refine LeO.bind ?_ (fun _ => ?_)
    · intro y0 y1 y2
      unfold stencilref02_Parse.l3
      repeat' first
      | (with_reducible exact ih0 _)
      | (with_reducible exact ih1 _)
      | (with_reducible exact ih2 _ _)
      | (with_reducible exact ih3 _ _)
      | (with_reducible exact ih4 _ _ _ _ _ _ _ _)
      | (with_reducible exact ih5 _ _ _ _ _ _ _ _ _)
      | (with_reducible exact ih6 _ _ _)
      | (with_reducible exact ih7 _)
      | (with_reducible exact ih8 _)
      | (with_reducible exact stencilref02_made.mono _ _ _ _)
      | (with_reducible exact LeO.refl _)
      | (with_reducible exact LeO.none _)
      | (with_reducible refine LeO.ite ?_ ?_)
      | (with_reducible refine LeO.bind ?_ (fun _ => ?_))
      | exact ih0 _
      | exact ih1 _
      | exact ih2 _ _
      | exact ih3 _ _
      | exact ih4 _ _ _ _ _ _ _ _
      | exact ih5 _ _ _ _ _ _ _ _ _
      | exact ih6 _ _ _
      | exact ih7 _
      | exact ih8 _
      | exact stencilref02_made.mono _ _ _ _
      | exact LeO.none _
      | refine LeO.ite ?_ ?_
      | refine LeO.bind ?_ (fun _ => ?_)
    · intro y0
      unfold stencilref02_Parse.l1
      repeat' first
      | (with_reducible exact ih0 _)
      | (with_reducible exact ih1 _)
      | (with_reducible exact ih2 _ _)
      | (with_reducible exact ih3 _ _)
      | (with_reducible exact ih4 _ _ _ _ _ _ _ _)
      | (with_reducible exact ih5 _ _ _ _ _ _ _ _ _)
      | (with_reducible exact ih6 _ _ _)
      | (with_reducible exact ih7 _)
      | (with_reducible exact ih8 _)
      | (with_reducible exact stencilref02_made.mono _ _ _ _)
      | (with_reducible exact LeO.refl _)
      | (with_reducible exact LeO.none _)
      | (with_reducible refine LeO.ite ?_ ?_)
      | (with_reducible refine LeO.bind ?_ (fun _ => ?_))
      | exact ih0 _
      | exact ih1 _
      | exact ih2 _ _
      | exact ih3 _ _
      | exact ih4 _ _ _ _ _ _ _ _
      | exact ih5 _ _ _ _ _ _ _ _ _
      | exact ih6 _ _ _
      | exact ih7 _
      | exact ih8 _
      | exact stencilref02_made.mono _ _ _ _
      | exact LeO.none _
      | refine LeO.ite ?_ ?_
      | refine LeO.bind ?_ (fun _ => ?_)
    · intro y0
      unfold stencilref02_Parse.l0
      repeat' first
      | (with_reducible exact ih0 _)
      | (with_reducible exact ih1 _)
      | (with_reducible exact ih2 _ _)
      | (with_reducible exact ih3 _ _)
      | (with_reducible exact ih4 _ _ _ _ _ _ _ _)
      | (with_reducible exact ih5 _ _ _ _ _ _ _ _ _)
      | (with_reducible exact ih6 _ _ _)
      | (with_reducible exact ih7 _)
      | (with_reducible exact ih8 _)
      | (with_reducible exact stencilref02_made.mono _ _ _ _)
      | (with_reducible exact LeO.refl _)
      | (with_reducible exact LeO.none _)
      | (with_reducible refine LeO.ite ?_ ?_)
      | (with_reducible refine LeO.bind ?_ (fun _ => ?_))
      | exact ih0 _
      | exact ih1 _
      | exact ih2 _ _
      | exact ih3 _ _
      | exact ih4 _ _ _ _ _ _ _ _
      | exact ih5 _ _ _ _ _ _ _ _ _
      | exact ih6 _ _ _
      | exact ih7 _
      | exact ih8 _
      | exact stencilref02_made.mono _ _ _ _
      | exact LeO.none _
      | refine LeO.ite ?_ ?_
      | refine LeO.bind ?_ (fun _ => ?_)
theorem stencilref02_Parse.mono : ∀ a0 k, LeO (stencilref02_Parse.f k a0) (stencilref02_Parse.f (k + 1) a0) := by
  intro a0 k
  obtain ⟨ih0, ih1, ih2, ih3, ih4, ih5, ih6, ih7, ih8⟩ := stencilref02_Parse.mono_l k
  unfold stencilref02_Parse.f
  repeat' first
      | (with_reducible exact ih0 _)
      | (with_reducible exact ih1 _)
      | (with_reducible exact ih2 _ _)
      | (with_reducible exact ih3 _ _)
      | (with_reducible exact ih4 _ _ _ _ _ _ _ _)
      | (with_reducible exact ih5 _ _ _ _ _ _ _ _ _)
      | (with_reducible exact ih6 _ _ _)
      | (with_reducible exact ih7 _)
      | (with_reducible exact ih8 _)
      | (with_reducible exact stencilref02_made.mono _ _ _ _)
      | (with_reducible exact LeO.refl _)
      | (with_reducible exact LeO.none _)
      | (with_reducible refine LeO.ite ?_ ?_)
      | (with_reducible refine LeO.bind ?_ (fun _ => ?_))
      | exact ih0 _
      | exact ih1 _
      | exact ih2 _ _
      | exact ih3 _ _
      | exact ih4 _ _ _ _ _ _ _ _
      | exact ih5 _ _ _ _ _ _ _ _ _
      | exact ih6 _ _ _
      | exact ih7 _
      | exact ih8 _
      | exact stencilref02_made.mono _ _ _ _
      | exact LeO.none _
      | refine LeO.ite ?_ ?_
      | refine LeO.bind ?_ (fun _ => ?_)
set_option maxHeartbeats 8000000 in
set_option maxRecDepth 100000 in
theorem stencilref02_Parse.calls (k : Nat) (a0 : ByteArray) (r1 : Int) (r2 : Int) (w : World) (HLD : Laid w) (h : stencilref02_Parse.f k a0 = some (r1, r2)) :
    Calls Tryz.prog 45 #[.string a0] w fun e w' => e = .returned (.agg #[.int .i64 r1, .int .i64 r2]) ∧ Below w.heap.size w w' := by
  have hu24 := Tryz.underlying24
  have HB := Aside0.mk (Below.refl w.heap.size w)
  have H : (stencilref02_Parse.l0 k a0) = some (r1, r2) := h
  clear h
  have HC2 := Aside0.mk H
  clear H
  go_enter Tryz.func45, Tryz.ntmps45
  go_upto_block 0 with (first | ((with_reducible refine gate_dst (N := 2) rfl ?_); (try (refine gate_guard (by rfl) ?_; dsimp only)); refine box_event ?hg (N := 2) ?hd (cs := #[.int .i64 0, .int .i64 0]) (t := 24) ?hr ?_; (case hd => rfl); (case hg => rfl); (case hr => first | (go_simp; done) | (go_simp; rfl)); intro gb251 hg w3 hbox hb; have n0_ := Aside0.mk (below_step (by repeat (first | (with_reducible first | exact HB.out | apply below_alloc | apply pw_below_drewN | apply below_drew1) | exact HB.out)) hb); have n1_ := Aside0.mk (hbox); have n2_ := Aside0.mk ((by rw [hg]; exact (below_size (by repeat (first | (with_reducible first | exact HB.out | apply below_alloc | apply pw_below_drewN | apply below_drew1) | exact HB.out))) : w.heap.size ≤ gb251)); have n3_ := Aside0.mk ((by rw [hg]; exact (below_size (by repeat (first | (with_reducible first | exact HB.out | apply below_alloc | apply pw_below_drewN | apply below_drew1) | exact HB.out))) : w.heap.size ≤ gb251)); clear HB; have HB := n0_; have BK251 := n1_; have GW251 := n2_; have GE251 := n3_; clear n0_ n1_ n2_ n3_; clear hb hbox hg))
  (try simp only [Act.put, List.setIfInBounds_toArray, List.set_cons_zero, List.set_cons_succ])
  go_cut [0] (fun v0 wc => ∃ (kq : Nat) (x0_1 : ByteArray), v0 = .string x0_1 ∧ Aside0 (stencilref02_Parse.j1 kq x0_1 = some (r1, r2)) ∧ Aside0 (kq ≤ k) ∧ Aside0 (wc.heap[gb251]? = some (.cells #[.int .i64 0, .int .i64 0] 24 (0, 0))) ∧ Aside0 (Below w.heap.size w wc))
  case first =>
    have H := HC2.out
    clear HC2
    have H' := Aside0.mk H
    clear H
    go_wp2
    go_loopg [0] k (fun kq v0 w' => ∃ (x0_1 : ByteArray), v0 = .string x0_1 ∧ Aside0 (stencilref02_Parse.l0 kq x0_1 = some (r1, r2)) ∧ Aside0 (kq ≤ k) ∧ Aside0 (w'.heap[gb251]? = some (.cells #[.int .i64 0, .int .i64 0] 24 (0, 0))) ∧ Aside0 (Below w.heap.size w w'))
    case atStart => exact ⟨(a0), (by first | rfl | (simp; done) | (simp [*]; done)), H', ⟨Nat.le_refl _⟩, ⟨by (with_reducible repeat (first | refine blk_drewN ?_ _ | refine blk_drew ?_ | refine blk_alloc ?_ _)); exact BK251.out⟩, ⟨by repeat (first | (with_reducible first | exact HB.out | apply below_alloc | apply pw_below_drewN | apply below_drew1 | refine below_set ?_ GE251.out) | exact HB.out)⟩⟩
    case round =>
      clear H'
      try clear p2
      obtain ⟨x0_1, rfl, HA, HK1, BK251, HB⟩ := hrel
      cases gk with
      | zero => exact absurd HA.out (by simp [stencilref02_Parse.l0])
      | succ k1 =>
        have H := HA.out
        clear HA
        simp only [stencilref02_Parse.l0] at H
        by_cases c4 : (x0_1.size : Int) > 0
        · rw [if_pos c4] at H
          have c4b0 : decide (0 < (x0_1.size : Int)) = true := decide_eq_true c4
          have c4b1 : decide (0 < x0_1.size) = true := decide_eq_true (by omega)
          clear c4
          (first | rw [c4b0] | (simp only [i64_w, i32_w]; rw [c4b0]) | skip)
          by_cases c5 : 0 < (x0_1.size : Int)
          · rw [if_pos c5] at H
            have c5b0 : decide (0 < (x0_1.size : Int)) = true := decide_eq_true c5
            have c5b1 : decide (0 < x0_1.size) = true := decide_eq_true (by omega)
            clear c5
            replace H := Option.bind_eq_some_iff.mp H
            obtain ⟨t252, A70, H⟩ := H
            replace H : (if t252 = true then (if 1 ≤ (x0_1.size : Int) then (stencilref02_Parse.l0 k1 (x0_1.extract 1 x0_1.size)) else (none)) else (stencilref02_Parse.j1 k1 x0_1)) = some (r1, r2) := H
            have A7 := Aside0.mk A70
            clear A70
            by_cases c8 : t252 = true
            · subst c8
              have H1 : (if 1 ≤ (x0_1.size : Int) then (stencilref02_Parse.l0 k1 (x0_1.extract 1 x0_1.size)) else (none)) = some (r1, r2) := by rw [if_pos rfl] at H; exact H
              clear H
              have H := H1
              clear H1
              by_cases c9 : 1 ≤ (x0_1.size : Int)
              · rw [if_pos c9] at H
                have c9b0 := eq_true c9
                have c9b1 : decide (1 ≤ (x0_1.size : Int)) = true := decide_eq_true c9
                clear c9
                have H' := Aside0.mk H
                clear H
                have p6 : 0 ≤ (0 : Int) := (by omega)
                have q6 : 0 < x0_1.size := (by have : (0 : Int) < (x0_1.size : Int) := of_decide_eq_true (by first | (with_reducible assumption) | assumption); omega)
                have hx6 : ∀ h : 0 < x0_1.size, ((x0_1[0]'h).toNat : Int) = bt x0_1 0 := bt_at x0_1 0
                clear p6
                have qi6 : (0 < (x0_1.size : Int)) = True := eq_true (of_decide_eq_true (by first | (with_reducible assumption) | assumption))
                replace q6 := eq_true q6
                go_wp2_with (first | (go_at_call 87; (with_reducible refine (stencilref02_blank.calls (bt x0_1 0) true _ ?side1 A7.out).mono ?_); (case side1 => first | exact HLD | exact Laid.below HLD (by repeat (first | (with_reducible first | exact HB.out | apply below_alloc | apply pw_below_drewN | apply below_drew1 | refine below_set ?_ GE251.out) | exact HB.out))); rintro e w' ⟨rfl, ⟨nd, rfl⟩⟩))
                go_roundg k1
                case measure => have := HK1.out; omega
                case rel => exact ⟨(x0_1.extract 1 x0_1.size), (by first | rfl | (simp; done) | (simp [*]; done)), H', ⟨by have := HK1.out; omega⟩, ⟨by (with_reducible repeat (first | refine blk_drewN ?_ _ | refine blk_drew ?_ | refine blk_alloc ?_ _)); exact BK251.out⟩, ⟨by repeat (first | (with_reducible first | exact HB.out | apply below_alloc | apply pw_below_drewN | apply below_drew1 | refine below_set ?_ GE251.out) | exact HB.out)⟩⟩
              · rw [if_neg c9] at H
                exact absurd H (by simp)
            · replace c8 := Bool.eq_false_iff.mpr c8
              subst c8
              have H1 : (stencilref02_Parse.j1 k1 x0_1) = some (r1, r2) := by rw [if_neg (show ¬ (false = true) by decide)] at H; exact H
              clear H
              have H := H1
              clear H1
              have H' := Aside0.mk H
              clear H
              have p6 : 0 ≤ (0 : Int) := (by omega)
              have q6 : 0 < x0_1.size := (by have : (0 : Int) < (x0_1.size : Int) := of_decide_eq_true (by first | (with_reducible assumption) | assumption); omega)
              have hx6 : ∀ h : 0 < x0_1.size, ((x0_1[0]'h).toNat : Int) = bt x0_1 0 := bt_at x0_1 0
              clear p6
              have qi6 : (0 < (x0_1.size : Int)) = True := eq_true (of_decide_eq_true (by first | (with_reducible assumption) | assumption))
              replace q6 := eq_true q6
              go_wp2_with (first | (go_at_call 87; (with_reducible refine (stencilref02_blank.calls (bt x0_1 0) false _ ?side1 A7.out).mono ?_); (case side1 => first | exact HLD | exact Laid.below HLD (by repeat (first | (with_reducible first | exact HB.out | apply below_alloc | apply pw_below_drewN | apply below_drew1 | refine below_set ?_ GE251.out) | exact HB.out))); rintro e w' ⟨rfl, ⟨nd, rfl⟩⟩))
              go_meet
              case rel => exact ⟨_, (x0_1), (by first | rfl | (simp; done) | (simp [*]; done)), H', ⟨by have := HK1.out; first | omega | exact Nat.le_refl _⟩, ⟨by (with_reducible repeat (first | refine blk_drewN ?_ _ | refine blk_drew ?_ | refine blk_alloc ?_ _)); exact BK251.out⟩, ⟨by repeat (first | (with_reducible first | exact HB.out | apply below_alloc | apply pw_below_drewN | apply below_drew1 | refine below_set ?_ GE251.out) | exact HB.out)⟩⟩
          · rw [if_neg c5] at H
            exact absurd H (by simp)
        · rw [if_neg c4] at H
          have c4b0 : decide (0 < (x0_1.size : Int)) = false := decide_eq_false c4
          have c4b1 : decide (0 < x0_1.size) = false := decide_eq_false (by omega)
          clear c4
          (first | rw [c4b0] | (simp only [i64_w, i32_w]; rw [c4b0]) | skip)
          have H' := Aside0.mk H
          clear H
          go_wp2
          go_meet
          case rel => exact ⟨_, (x0_1), (by first | rfl | (simp; done) | (simp [*]; done)), H', ⟨by have := HK1.out; first | omega | exact Nat.le_refl _⟩, ⟨by (with_reducible repeat (first | refine blk_drewN ?_ _ | refine blk_drew ?_ | refine blk_alloc ?_ _)); exact BK251.out⟩, ⟨by repeat (first | (with_reducible first | exact HB.out | apply below_alloc | apply pw_below_drewN | apply below_drew1 | refine below_set ?_ GE251.out) | exact HB.out)⟩⟩
  case rest =>
    clear HC2
    try clear p2
    try clear c4
    try clear c4b0
    try clear c4b1
    try clear c5
    try clear c5b0
    try clear c5b1
    try clear p6
    try clear q6
    try clear hx6
    try clear qi6
    try clear c8
    try clear c9
    try clear c9b0
    try clear c9b1
    try clear p2
    try clear p6
    try clear q6
    obtain ⟨kq, x0_1, rfl, HA, HJ1, BK251, HB⟩ := hcut
    cases kq with
    | zero => exact absurd HA.out (by simp [stencilref02_Parse.j1])
    | succ kj1 =>
      have H := HA.out
      clear HA
      simp only [stencilref02_Parse.j1] at H
      have HC10 := Aside0.mk H
      clear H
      go_upto_block 2 with (fail)
      go_cut [0] (fun v0 wc => ∃ (kq : Nat) (x0_9 : ByteArray), v0 = .string x0_9 ∧ Aside0 (stencilref02_Parse.j3 kq x0_9 = some (r1, r2)) ∧ Aside0 (kq ≤ kj1) ∧ Aside0 (wc.heap[gb251]? = some (.cells #[.int .i64 0, .int .i64 0] 24 (0, 0))) ∧ Aside0 (Below w.heap.size w wc))
      case first =>
        have H := HC10.out
        clear HC10
        have H' := Aside0.mk H
        clear H
        go_wp2
        go_loopg [0] kj1 (fun kq v0 w' => ∃ (x0_2 : ByteArray), v0 = .string x0_2 ∧ Aside0 (stencilref02_Parse.l1 kq x0_2 = some (r1, r2)) ∧ Aside0 (kq ≤ kj1) ∧ Aside0 (w'.heap[gb251]? = some (.cells #[.int .i64 0, .int .i64 0] 24 (0, 0))) ∧ Aside0 (Below w.heap.size w w'))
        case atStart => exact ⟨(x0_1), (by first | rfl | (simp; done) | (simp [*]; done)), H', ⟨Nat.le_refl _⟩, ⟨by (with_reducible repeat (first | refine blk_drewN ?_ _ | refine blk_drew ?_ | refine blk_alloc ?_ _)); exact BK251.out⟩, ⟨by repeat (first | (with_reducible first | exact HB.out | apply below_alloc | apply pw_below_drewN | apply below_drew1 | refine below_set ?_ GE251.out) | exact HB.out)⟩⟩
        case round =>
          clear H'
          try clear p2
          try clear c4
          try clear c4b0
          try clear c4b1
          try clear c5
          try clear c5b0
          try clear c5b1
          try clear p6
          try clear q6
          try clear hx6
          try clear qi6
          try clear c8
          try clear c9
          try clear c9b0
          try clear c9b1
          try clear p2
          try clear p6
          try clear q6
          obtain ⟨x0_2, rfl, HA, HK2, BK251, HB⟩ := hrel
          cases gk with
          | zero => exact absurd HA.out (by simp [stencilref02_Parse.l1])
          | succ k2 =>
            have H := HA.out
            clear HA
            simp only [stencilref02_Parse.l1] at H
            by_cases c11 : (x0_2.size : Int) > 0
            · rw [if_pos c11] at H
              have c11b0 : decide (0 < (x0_2.size : Int)) = true := decide_eq_true c11
              have c11b1 : decide (0 < x0_2.size) = true := decide_eq_true (by omega)
              clear c11
              (first | rw [c11b0] | (simp only [i64_w, i32_w]; rw [c11b0]) | skip)
              obtain ⟨ji12, hji12⟩ : ∃ j_ : Int, (wrap64 ((x0_2.size : Int) - 1)) = j_ := ⟨_, rfl⟩
              replace H : (if 0 ≤ (ji12) then (if (ji12) < (x0_2.size : Int) then ((stencilref02_blank.f (bt x0_2 (ji12))).bind fun t253 => (if t253 = true then (if (ji12) ≤ (x0_2.size : Int) then (stencilref02_Parse.l1 k2 (x0_2.extract 0 ((ji12) : Int).toNat)) else (none)) else (stencilref02_Parse.j3 k2 x0_2))) else (none)) else (none)) = some (r1, r2) := by first | (rw [hji12] at H; exact H) | (simp only [hji12] at H ⊢; exact H)
              have hji12w : (IntKind.i64.wrap ((x0_2.size : Int) - 1)) = ji12 := (i64_w _).trans hji12
              by_cases c13 : 0 ≤ (ji12)
              · rw [if_pos c13] at H
                have c13b0 : decide (0 ≤ (ji12)) = true := decide_eq_true c13
                clear c13
                by_cases c14 : (ji12) < (x0_2.size : Int)
                · rw [if_pos c14] at H
                  have c14b0 : decide ((ji12) < (x0_2.size : Int)) = true := decide_eq_true c14
                  clear c14
                  replace H := Option.bind_eq_some_iff.mp H
                  obtain ⟨t253, A160, H⟩ := H
                  replace H : (if t253 = true then (if (ji12) ≤ (x0_2.size : Int) then (stencilref02_Parse.l1 k2 (x0_2.extract 0 ((ji12) : Int).toNat)) else (none)) else (stencilref02_Parse.j3 k2 x0_2)) = some (r1, r2) := H
                  have A16 := Aside0.mk A160
                  clear A160
                  by_cases c17 : t253 = true
                  · subst c17
                    have H1 : (if (ji12) ≤ (x0_2.size : Int) then (stencilref02_Parse.l1 k2 (x0_2.extract 0 ((ji12) : Int).toNat)) else (none)) = some (r1, r2) := by rw [if_pos rfl] at H; exact H
                    clear H
                    have H := H1
                    clear H1
                    have c18b0 := eq_true (of_decide_eq_true (by first | (with_reducible assumption) | assumption) : 0 ≤ (ji12))
                    by_cases c19 : (ji12) ≤ (x0_2.size : Int)
                    · rw [if_pos c19] at H
                      have c19b0 := eq_true c19
                      have c19b1 : decide ((ji12) ≤ (x0_2.size : Int)) = true := decide_eq_true c19
                      clear c19
                      have H' := Aside0.mk H
                      clear H
                      have p15 : 0 ≤ ((ji12) : Int) := of_decide_eq_true (by first | (with_reducible assumption) | assumption)
                      have q15 : (ji12) < (x0_2.size : Int) := of_decide_eq_true (by first | (with_reducible assumption) | assumption)
                      have hx15 := bt_at x0_2 (ji12)
                      replace p15 := eq_true p15
                      replace q15 := eq_true q15
                      go_wp2_with (first | (go_at_call 87; (with_reducible refine (stencilref02_blank.calls (bt x0_2 (ji12)) true _ ?side1 A16.out).mono ?_); (case side1 => first | exact HLD | exact Laid.below HLD (by repeat (first | (with_reducible first | exact HB.out | apply below_alloc | apply pw_below_drewN | apply below_drew1 | refine below_set ?_ GE251.out) | exact HB.out))); rintro e w' ⟨rfl, ⟨nd, rfl⟩⟩))
                      go_roundg k2
                      case measure => have := HJ1.out; have := HK2.out; omega
                      case rel => exact ⟨(x0_2.extract 0 ((ji12) : Int).toNat), (by first | rfl | (simp; done) | (simp only [← hji12] <;> (first | rfl | simp)) | (simp [*]; done)), H', ⟨by have := HJ1.out; have := HK2.out; omega⟩, ⟨by (with_reducible repeat (first | refine blk_drewN ?_ _ | refine blk_drew ?_ | refine blk_alloc ?_ _)); exact BK251.out⟩, ⟨by repeat (first | (with_reducible first | exact HB.out | apply below_alloc | apply pw_below_drewN | apply below_drew1 | refine below_set ?_ GE251.out) | exact HB.out)⟩⟩
                    · rw [if_neg c19] at H
                      exact absurd H (by simp)
                  · replace c17 := Bool.eq_false_iff.mpr c17
                    subst c17
                    have H1 : (stencilref02_Parse.j3 k2 x0_2) = some (r1, r2) := by rw [if_neg (show ¬ (false = true) by decide)] at H; exact H
                    clear H
                    have H := H1
                    clear H1
                    have H' := Aside0.mk H
                    clear H
                    have p15 : 0 ≤ ((ji12) : Int) := of_decide_eq_true (by first | (with_reducible assumption) | assumption)
                    have q15 : (ji12) < (x0_2.size : Int) := of_decide_eq_true (by first | (with_reducible assumption) | assumption)
                    have hx15 := bt_at x0_2 (ji12)
                    replace p15 := eq_true p15
                    replace q15 := eq_true q15
                    go_wp2_with (first | (go_at_call 87; (with_reducible refine (stencilref02_blank.calls (bt x0_2 (ji12)) false _ ?side1 A16.out).mono ?_); (case side1 => first | exact HLD | exact Laid.below HLD (by repeat (first | (with_reducible first | exact HB.out | apply below_alloc | apply pw_below_drewN | apply below_drew1 | refine below_set ?_ GE251.out) | exact HB.out))); rintro e w' ⟨rfl, ⟨nd, rfl⟩⟩))
                    go_meet
                    case rel => exact ⟨_, (x0_2), (by first | rfl | (simp; done) | (simp [*]; done)), H', ⟨by have := HJ1.out; have := HK2.out; first | omega | exact Nat.le_refl _⟩, ⟨by (with_reducible repeat (first | refine blk_drewN ?_ _ | refine blk_drew ?_ | refine blk_alloc ?_ _)); exact BK251.out⟩, ⟨by repeat (first | (with_reducible first | exact HB.out | apply below_alloc | apply pw_below_drewN | apply below_drew1 | refine below_set ?_ GE251.out) | exact HB.out)⟩⟩
                · rw [if_neg c14] at H
                  exact absurd H (by simp)
              · rw [if_neg c13] at H
                exact absurd H (by simp)
            · rw [if_neg c11] at H
              have c11b0 : decide (0 < (x0_2.size : Int)) = false := decide_eq_false c11
              have c11b1 : decide (0 < x0_2.size) = false := decide_eq_false (by omega)
              clear c11
              (first | rw [c11b0] | (simp only [i64_w, i32_w]; rw [c11b0]) | skip)
              have H' := Aside0.mk H
              clear H
              go_wp2
              go_meet
              case rel => exact ⟨_, (x0_2), (by first | rfl | (simp; done) | (simp [*]; done)), H', ⟨by have := HJ1.out; have := HK2.out; first | omega | exact Nat.le_refl _⟩, ⟨by (with_reducible repeat (first | refine blk_drewN ?_ _ | refine blk_drew ?_ | refine blk_alloc ?_ _)); exact BK251.out⟩, ⟨by repeat (first | (with_reducible first | exact HB.out | apply below_alloc | apply pw_below_drewN | apply below_drew1 | refine below_set ?_ GE251.out) | exact HB.out)⟩⟩
      case rest =>
        clear HC10
        try clear c1
        try clear p1
        try clear q1
        try clear hx1
        try clear p2
        try clear c4
        try clear c4b0
        try clear c4b1
        try clear c5
        try clear c5b0
        try clear c5b1
        try clear p6
        try clear q6
        try clear hx6
        try clear qi6
        try clear c8
        try clear c9
        try clear c9b0
        try clear c9b1
        try clear c11
        try clear c11b0
        try clear c11b1
        try clear c13
        try clear c13b0
        try clear c14
        try clear c14b0
        try clear p15
        try clear q15
        try clear hx15
        try clear c17
        try clear c18
        try clear c18b0
        try clear c19
        try clear c19b0
        try clear c19b1
        try clear p15
        try clear p2
        try clear p6
        try clear q15
        try clear q6
        obtain ⟨kq, x0_9, rfl, HA, HJ9, BK251, HB⟩ := hcut
        cases kq with
        | zero => exact absurd HA.out (by simp [stencilref02_Parse.j3])
        | succ kj9 =>
          have H := HA.out
          clear HA
          simp only [stencilref02_Parse.j3] at H
          have HC20 := Aside0.mk H
          clear H
          go_upto_region 5 with (fail)
          go_cut [3] (fun v3 wc => ∃ (kq : Nat) (x3_19 : Bool), v3 = .bool x3_19 ∧ Aside0 (stencilref02_Parse.j4 kq x0_9 x3_19 = some (r1, r2)) ∧ Aside0 (kq ≤ kj9) ∧ Aside0 (wc.heap[gb251]? = some (.cells #[.int .i64 0, .int .i64 0] 24 (0, 0))) ∧ Aside0 (Below w.heap.size w wc))
          case first =>
            have H := HC20.out
            clear HC20
            by_cases c21 : (x0_9.size : Int) > 0
            · rw [if_pos c21] at H
              have c21b0 : decide (0 < (x0_9.size : Int)) = true := decide_eq_true c21
              have c21b1 : decide (0 < x0_9.size) = true := decide_eq_true (by omega)
              clear c21
              (first | rw [c21b0] | (simp only [i64_w, i32_w]; rw [c21b0]) | skip)
              by_cases c22 : 0 < (x0_9.size : Int)
              · rw [if_pos c22] at H
                have c22b0 : decide (0 < (x0_9.size : Int)) = true := decide_eq_true c22
                have c22b1 : decide (0 < x0_9.size) = true := decide_eq_true (by omega)
                clear c22
                have H' := Aside0.mk H
                clear H
                have p23 : 0 ≤ (0 : Int) := (by omega)
                have q23 : 0 < x0_9.size := (by have : (0 : Int) < (x0_9.size : Int) := of_decide_eq_true (by first | (with_reducible assumption) | assumption); omega)
                have hx23 : ∀ h : 0 < x0_9.size, ((x0_9[0]'h).toNat : Int) = bt x0_9 0 := bt_at x0_9 0
                clear p23
                have qi23 : (0 < (x0_9.size : Int)) = True := eq_true (of_decide_eq_true (by first | (with_reducible assumption) | assumption))
                replace q23 := eq_true q23
                go_wp2
                go_meet
                case rel => exact ⟨_, (((bt x0_9 0) == 45)), (by first | rfl | (simp; done) | (simp [*]; done)), H', ⟨by have := HJ1.out; have := HJ9.out; first | omega | exact Nat.le_refl _⟩, ⟨by (with_reducible repeat (first | refine blk_drewN ?_ _ | refine blk_drew ?_ | refine blk_alloc ?_ _)); exact BK251.out⟩, ⟨by repeat (first | (with_reducible first | exact HB.out | apply below_alloc | apply pw_below_drewN | apply below_drew1 | refine below_set ?_ GE251.out) | exact HB.out)⟩⟩
              · rw [if_neg c22] at H
                exact absurd H (by simp)
            · rw [if_neg c21] at H
              have c21b0 : decide (0 < (x0_9.size : Int)) = false := decide_eq_false c21
              have c21b1 : decide (0 < x0_9.size) = false := decide_eq_false (by omega)
              clear c21
              (first | rw [c21b0] | (simp only [i64_w, i32_w]; rw [c21b0]) | skip)
              have H' := Aside0.mk H
              clear H
              go_wp2
              go_meet
              case rel => exact ⟨_, (false), (by first | rfl | (simp; done) | (simp [*]; done)), H', ⟨by have := HJ1.out; have := HJ9.out; first | omega | exact Nat.le_refl _⟩, ⟨by (with_reducible repeat (first | refine blk_drewN ?_ _ | refine blk_drew ?_ | refine blk_alloc ?_ _)); exact BK251.out⟩, ⟨by repeat (first | (with_reducible first | exact HB.out | apply below_alloc | apply pw_below_drewN | apply below_drew1 | refine below_set ?_ GE251.out) | exact HB.out)⟩⟩
          case rest =>
            clear HC20
            try clear c1
            try clear p1
            try clear q1
            try clear hx1
            try clear c2
            try clear p2
            try clear q2
            try clear hx2
            try clear qi2
            try clear c4
            try clear c4b0
            try clear c4b1
            try clear c5
            try clear c5b0
            try clear c5b1
            try clear p6
            try clear q6
            try clear hx6
            try clear qi6
            try clear c8
            try clear c9
            try clear c9b0
            try clear c9b1
            try clear c11
            try clear c11b0
            try clear c11b1
            try clear c13
            try clear c13b0
            try clear c14
            try clear c14b0
            try clear p15
            try clear q15
            try clear hx15
            try clear c17
            try clear c18
            try clear c18b0
            try clear c19
            try clear c19b0
            try clear c19b1
            try clear c21
            try clear c21b0
            try clear c21b1
            try clear c22
            try clear c22b0
            try clear c22b1
            try clear p23
            try clear q23
            try clear hx23
            try clear qi23
            try clear p1
            try clear p15
            try clear p2
            try clear p23
            try clear p6
            try clear q1
            try clear q15
            try clear q23
            try clear q6
            obtain ⟨kq, x3_19, rfl, HA, HJ19, BK251, HB⟩ := hcut
            cases kq with
            | zero => exact absurd HA.out (by simp [stencilref02_Parse.j4])
            | succ kj19 =>
              have H := HA.out
              clear HA
              simp only [stencilref02_Parse.j4] at H
              have HC24 := Aside0.mk H
              clear H
              go_upto_if 44 with (fail)
              go_cut [0] (fun v0 wc => ∃ (kq : Nat) (x0_23 : ByteArray), v0 = .string x0_23 ∧ Aside0 (stencilref02_Parse.j5 kq x0_23 x3_19 = some (r1, r2)) ∧ Aside0 (kq ≤ kj19) ∧ Aside0 (wc.heap[gb251]? = some (.cells #[.int .i64 0, .int .i64 0] 24 (0, 0))) ∧ Aside0 (Below w.heap.size w wc))
              case first =>
                have H := HC24.out
                clear HC24
                by_cases c25 : x3_19 = true
                · subst c25
                  have H1 : (if 1 ≤ (x0_9.size : Int) then (stencilref02_Parse.j5 kj19 (x0_9.extract 1 x0_9.size) true) else (none)) = some (r1, r2) := by rw [if_pos rfl] at H; exact H
                  clear H
                  have H := H1
                  clear H1
                  by_cases c26 : 1 ≤ (x0_9.size : Int)
                  · rw [if_pos c26] at H
                    have c26b0 := eq_true c26
                    have c26b1 : decide (1 ≤ (x0_9.size : Int)) = true := decide_eq_true c26
                    clear c26
                    have H' := Aside0.mk H
                    clear H
                    go_wp2
                    go_meet
                    case rel => exact ⟨_, (x0_9.extract 1 x0_9.size), (by first | rfl | (simp; done) | (simp [*]; done)), H', ⟨by have := HJ1.out; have := HJ9.out; have := HJ19.out; first | omega | exact Nat.le_refl _⟩, ⟨by (with_reducible repeat (first | refine blk_drewN ?_ _ | refine blk_drew ?_ | refine blk_alloc ?_ _)); exact BK251.out⟩, ⟨by repeat (first | (with_reducible first | exact HB.out | apply below_alloc | apply pw_below_drewN | apply below_drew1 | refine below_set ?_ GE251.out) | exact HB.out)⟩⟩
                  · rw [if_neg c26] at H
                    exact absurd H (by simp)
                · replace c25 := Bool.eq_false_iff.mpr c25
                  subst c25
                  have H1 : (stencilref02_Parse.j5 kj19 x0_9 false) = some (r1, r2) := by rw [if_neg (show ¬ (false = true) by decide)] at H; exact H
                  clear H
                  have H := H1
                  clear H1
                  have H' := Aside0.mk H
                  clear H
                  go_wp2
                  go_meet
                  case rel => exact ⟨_, (x0_9), (by first | rfl | (simp; done) | (simp [*]; done)), H', ⟨by have := HJ1.out; have := HJ9.out; have := HJ19.out; first | omega | exact Nat.le_refl _⟩, ⟨by (with_reducible repeat (first | refine blk_drewN ?_ _ | refine blk_drew ?_ | refine blk_alloc ?_ _)); exact BK251.out⟩, ⟨by repeat (first | (with_reducible first | exact HB.out | apply below_alloc | apply pw_below_drewN | apply below_drew1 | refine below_set ?_ GE251.out) | exact HB.out)⟩⟩
              case rest =>
                clear HC24
                try clear c1
                try clear p1
                try clear q1
                try clear hx1
                try clear c2
                try clear p2
                try clear q2
                try clear hx2
                try clear qi2
                try clear c4
                try clear c4b0
                try clear c4b1
                try clear c5
                try clear c5b0
                try clear c5b1
                try clear p6
                try clear q6
                try clear hx6
                try clear qi6
                try clear c8
                try clear c9
                try clear c9b0
                try clear c9b1
                try clear c11
                try clear c11b0
                try clear c11b1
                try clear c13
                try clear c13b0
                try clear c14
                try clear c14b0
                try clear p15
                try clear q15
                try clear hx15
                try clear c17
                try clear c18
                try clear c18b0
                try clear c19
                try clear c19b0
                try clear c19b1
                try clear c21
                try clear c21b0
                try clear c21b1
                try clear c22
                try clear c22b0
                try clear c22b1
                try clear p23
                try clear q23
                try clear hx23
                try clear qi23
                try clear c25
                try clear c26
                try clear c26b0
                try clear c26b1
                try clear p1
                try clear p15
                try clear p2
                try clear p23
                try clear p6
                try clear q1
                try clear q15
                try clear q2
                try clear q23
                try clear q6
                obtain ⟨kq, x0_23, rfl, HA, HJ23, BK251, HB⟩ := hcut
                cases kq with
                | zero => exact absurd HA.out (by simp [stencilref02_Parse.j5])
                | succ kj23 =>
                  have H := HA.out
                  clear HA
                  simp only [stencilref02_Parse.j5] at H
                  have H' := Aside0.mk H
                  clear H
                  go_wp2
                  go_loopg [4, 5, 6, 7, 8, 9] kj23 (fun kq v4 v5 v6 v7 v8 v9 w' => ∃ (x4_5 : Int) (x5_5 : Int) (x6_5 : Bool) (x7_5 : Bool) (x8_5 : Bool) (x9_5 : Int) (x252000_5 : Int) (x252001_5 : Int), v4 = .int .u64 x4_5 ∧ v5 = .int .i64 x5_5 ∧ v6 = .bool x6_5 ∧ v7 = .bool x7_5 ∧ v8 = .bool x8_5 ∧ v9 = .int .i64 x9_5 ∧ Aside0 (stencilref02_Parse.l2 kq x0_23 x3_19 x4_5 x5_5 x6_5 x7_5 x8_5 x9_5 = some (r1, r2)) ∧ Aside0 (kq ≤ kj23) ∧ Aside0 (w'.heap[gb251]? = some (.cells #[.int .i64 x252000_5, .int .i64 x252001_5] 24 (0, 0))) ∧ Aside0 (Below w.heap.size w w'))
                  case atStart => exact ⟨(0), (0), (false), (false), (false), (0), (0), (0), (by first | rfl | (simp; done) | (simp [*]; done)), (by first | rfl | (simp; done) | (simp [*]; done)), (by first | rfl | (simp; done) | (simp [*]; done)), (by first | rfl | (simp; done) | (simp [*]; done)), (by first | rfl | (simp; done) | (simp [*]; done)), (by first | rfl | (simp; done) | (simp [*]; done)), H', ⟨Nat.le_refl _⟩, ⟨by (with_reducible repeat (first | refine blk_drewN ?_ _ | refine blk_drew ?_ | refine blk_alloc ?_ _)); exact BK251.out⟩, ⟨by repeat (first | (with_reducible first | exact HB.out | apply below_alloc | apply pw_below_drewN | apply below_drew1 | refine below_set ?_ GE251.out) | exact HB.out)⟩⟩
                  case round =>
                    clear H'
                    try clear c1
                    try clear p1
                    try clear q1
                    try clear hx1
                    try clear c2
                    try clear p2
                    try clear q2
                    try clear hx2
                    try clear qi2
                    try clear c4
                    try clear c4b0
                    try clear c4b1
                    try clear c5
                    try clear c5b0
                    try clear c5b1
                    try clear p6
                    try clear q6
                    try clear hx6
                    try clear qi6
                    try clear c8
                    try clear c9
                    try clear c9b0
                    try clear c9b1
                    try clear c11
                    try clear c11b0
                    try clear c11b1
                    try clear c13
                    try clear c13b0
                    try clear c14
                    try clear c14b0
                    try clear p15
                    try clear q15
                    try clear hx15
                    try clear c17
                    try clear c18
                    try clear c18b0
                    try clear c19
                    try clear c19b0
                    try clear c19b1
                    try clear c21
                    try clear c21b0
                    try clear c21b1
                    try clear c22
                    try clear c22b0
                    try clear c22b1
                    try clear p23
                    try clear q23
                    try clear hx23
                    try clear qi23
                    try clear c25
                    try clear c26
                    try clear c26b0
                    try clear c26b1
                    try clear p1
                    try clear p15
                    try clear p2
                    try clear p23
                    try clear p6
                    try clear q1
                    try clear q15
                    try clear q2
                    try clear q23
                    try clear q6
                    obtain ⟨x4_5, x5_5, x6_5, x7_5, x8_5, x9_5, x252000_5, x252001_5, rfl, rfl, rfl, rfl, rfl, rfl, HA, HK5, BK251, HB⟩ := hrel
                    cases gk with
                    | zero => exact absurd HA.out (by simp [stencilref02_Parse.l2])
                    | succ k5 =>
                      have H := HA.out
                      clear HA
                      simp only [stencilref02_Parse.l2] at H
                      by_cases c27 : x9_5 < (x0_23.size : Int)
                      · rw [if_pos c27] at H
                        have c27b0 : decide (x9_5 < (x0_23.size : Int)) = true := decide_eq_true c27
                        clear c27
                        have HC28 := Aside0.mk H
                        clear H
                        go_upto_region 12 with (fail)
                        go_cut [53] (fun v53 wc => ∃ (kq : Nat) (x53_27 : Bool), v53 = .bool x53_27 ∧ Aside0 (stencilref02_Parse.j7 kq x0_23 x3_19 x4_5 x5_5 x6_5 x7_5 x8_5 x9_5 x53_27 = some (r1, r2)) ∧ Aside0 (kq ≤ k5) ∧ Aside0 (wc.heap[gb251]? = some (.cells #[.int .i64 x252000_5, .int .i64 x252001_5] 24 (0, 0))) ∧ Aside0 (Below w.heap.size w wc))
                        case first =>
                          have H := HC28.out
                          clear HC28
                          by_cases c29 : 0 ≤ x9_5
                          · rw [if_pos c29] at H
                            have c29b0 : decide (0 ≤ x9_5) = true := decide_eq_true c29
                            clear c29
                            (first | rw [c29b0] | (simp only [i64_w, i32_w]; rw [c29b0]) | skip)
                            by_cases c31 : (bt x0_23 x9_5) = 46
                            · rw [if_pos c31] at H
                              have c31b0 : ((bt x0_23 x9_5) == 46) = true := beq_iff_eq.mpr c31
                              have c31b1 : ((bt x0_23 x9_5) != 46) = false := bne_eq_false_iff_eq.mpr c31
                              clear c31
                              have H' := Aside0.mk H
                              clear H
                              have p30 : 0 ≤ (x9_5 : Int) := of_decide_eq_true (by first | (with_reducible assumption) | assumption)
                              have q30 : x9_5 < (x0_23.size : Int) := of_decide_eq_true (by first | (with_reducible assumption) | assumption)
                              have hx30 := bt_at x0_23 x9_5
                              replace p30 := eq_true p30
                              replace q30 := eq_true q30
                              go_wp2
                              go_meet
                              case rel => exact ⟨_, (!x6_5), (by first | rfl | (simp; done) | (simp [*]; done)), H', ⟨by have := HJ1.out; have := HJ9.out; have := HJ19.out; have := HJ23.out; have := HK5.out; first | omega | exact Nat.le_refl _⟩, ⟨by (with_reducible repeat (first | refine blk_drewN ?_ _ | refine blk_drew ?_ | refine blk_alloc ?_ _)); exact BK251.out⟩, ⟨by repeat (first | (with_reducible first | exact HB.out | apply below_alloc | apply pw_below_drewN | apply below_drew1 | refine below_set ?_ GE251.out) | exact HB.out)⟩⟩
                            · rw [if_neg c31] at H
                              have c31b0 : ((bt x0_23 x9_5) == 46) = false := beq_eq_false_iff_ne.mpr c31
                              have c31b1 : ((bt x0_23 x9_5) != 46) = true := bne_iff_ne.mpr c31
                              have H' := Aside0.mk H
                              clear H
                              have p30 : 0 ≤ (x9_5 : Int) := of_decide_eq_true (by first | (with_reducible assumption) | assumption)
                              have q30 : x9_5 < (x0_23.size : Int) := of_decide_eq_true (by first | (with_reducible assumption) | assumption)
                              have hx30 := bt_at x0_23 x9_5
                              replace p30 := eq_true p30
                              replace q30 := eq_true q30
                              go_wp2
                              go_meet
                              case rel => exact ⟨_, (false), (by first | rfl | (simp; done) | (simp [*]; done)), H', ⟨by have := HJ1.out; have := HJ9.out; have := HJ19.out; have := HJ23.out; have := HK5.out; first | omega | exact Nat.le_refl _⟩, ⟨by (with_reducible repeat (first | refine blk_drewN ?_ _ | refine blk_drew ?_ | refine blk_alloc ?_ _)); exact BK251.out⟩, ⟨by repeat (first | (with_reducible first | exact HB.out | apply below_alloc | apply pw_below_drewN | apply below_drew1 | refine below_set ?_ GE251.out) | exact HB.out)⟩⟩
                          · rw [if_neg c29] at H
                            exact absurd H (by simp)
                        case rest =>
                          clear HC28
                          try clear c1
                          try clear p1
                          try clear q1
                          try clear hx1
                          try clear c2
                          try clear p2
                          try clear q2
                          try clear hx2
                          try clear qi2
                          try clear c3
                          try clear p3
                          try clear q3
                          try clear hx3
                          try clear c4
                          try clear c4b0
                          try clear c4b1
                          try clear c5
                          try clear c5b0
                          try clear c5b1
                          try clear p6
                          try clear q6
                          try clear hx6
                          try clear qi6
                          try clear c8
                          try clear c9
                          try clear c9b0
                          try clear c9b1
                          try clear c11
                          try clear c11b0
                          try clear c11b1
                          try clear c13
                          try clear c13b0
                          try clear c14
                          try clear c14b0
                          try clear p15
                          try clear q15
                          try clear hx15
                          try clear c17
                          try clear c18
                          try clear c18b0
                          try clear c19
                          try clear c19b0
                          try clear c19b1
                          try clear c21
                          try clear c21b0
                          try clear c21b1
                          try clear c22
                          try clear c22b0
                          try clear c22b1
                          try clear p23
                          try clear q23
                          try clear hx23
                          try clear qi23
                          try clear c25
                          try clear c26
                          try clear c26b0
                          try clear c26b1
                          try clear c27
                          try clear c27b0
                          try clear c29
                          try clear c29b0
                          try clear p30
                          try clear q30
                          try clear hx30
                          try clear c31
                          try clear c31b0
                          try clear c31b1
                          try clear p1
                          try clear p15
                          try clear p2
                          try clear p23
                          try clear p30
                          try clear p6
                          try clear q1
                          try clear q15
                          try clear q2
                          try clear q23
                          try clear q30
                          try clear q6
                          obtain ⟨kq, x53_27, rfl, HA, HJ27, BK251, HB⟩ := hcut
                          cases kq with
                          | zero => exact absurd HA.out (by simp [stencilref02_Parse.j7])
                          | succ kj27 =>
                            have H := HA.out
                            clear HA
                            simp only [stencilref02_Parse.j7] at H
                            by_cases c32 : x53_27 = true
                            · subst c32
                              have H1 : (stencilref02_Parse.l2 kj27 x0_23 x3_19 x4_5 x5_5 true x7_5 x8_5 (wrap64 (x9_5 + 1))) = some (r1, r2) := by rw [if_pos rfl] at H; exact H
                              clear H
                              have H := H1
                              clear H1
                              have H' := Aside0.mk H
                              clear H
                              go_wp2
                              go_roundg kj27
                              case measure => have := HJ1.out; have := HJ9.out; have := HJ19.out; have := HJ23.out; have := HK5.out; have := HJ27.out; omega
                              case rel => exact ⟨(x4_5), (x5_5), (true), (x7_5), (x8_5), (wrap64 (x9_5 + 1)), (x252000_5), (x252001_5), (by first | rfl | (simp; done) | (simp [*]; done)), (by first | rfl | (simp; done) | (simp [*]; done)), (by first | rfl | (simp; done) | (simp [*]; done)), (by first | rfl | (simp; done) | (simp [*]; done)), (by first | rfl | (simp; done) | (simp [*]; done)), (by first | rfl | (simp; done) | (simp [*]; done)), H', ⟨by have := HJ1.out; have := HJ9.out; have := HJ19.out; have := HJ23.out; have := HK5.out; have := HJ27.out; omega⟩, ⟨by (with_reducible repeat (first | refine blk_drewN ?_ _ | refine blk_drew ?_ | refine blk_alloc ?_ _)); exact BK251.out⟩, ⟨by repeat (first | (with_reducible first | exact HB.out | apply below_alloc | apply pw_below_drewN | apply below_drew1 | refine below_set ?_ GE251.out) | exact HB.out)⟩⟩
                            · replace c32 := Bool.eq_false_iff.mpr c32
                              subst c32
                              have H1 : (if 0 ≤ x9_5 then (if x9_5 < (x0_23.size : Int) then (if (bt x0_23 x9_5) < 48 then ((stencilref02_Nan.f).bind fun bt254 => (some (bt254.1, bt254.2))) else (if (bt x0_23 x9_5) > 57 then ((stencilref02_Nan.f).bind fun bt256 => (some (bt256.1, bt256.2))) else (if x6_5 = true then (if (wrap64 (x5_5 + 1)) ≤ 6 then (if x8_5 = true then (stencilref02_Parse.l2 kj27 x0_23 x3_19 x4_5 (wrap64 (x5_5 + 1)) x6_5 true x8_5 (wrap64 (x9_5 + 1))) else (stencilref02_Parse.l2 kj27 x0_23 x3_19 (IntKind.u64.wrap ((IntKind.u64.wrap (x4_5 * 10)) + (((bt x0_23 x9_5) - 48) % 256))) (wrap64 (x5_5 + 1)) x6_5 true (decide ((IntKind.u64.wrap ((IntKind.u64.wrap (x4_5 * 10)) + (((bt x0_23 x9_5) - 48) % 256))) > 1000000000000000000)) (wrap64 (x9_5 + 1)))) else (stencilref02_Parse.l2 kj27 x0_23 x3_19 x4_5 (wrap64 (x5_5 + 1)) x6_5 true x8_5 (wrap64 (x9_5 + 1)))) else (if x5_5 ≤ 6 then (if x8_5 = true then (stencilref02_Parse.l2 kj27 x0_23 x3_19 x4_5 x5_5 x6_5 true x8_5 (wrap64 (x9_5 + 1))) else (stencilref02_Parse.l2 kj27 x0_23 x3_19 (IntKind.u64.wrap ((IntKind.u64.wrap (x4_5 * 10)) + (((bt x0_23 x9_5) - 48) % 256))) x5_5 x6_5 true (decide ((IntKind.u64.wrap ((IntKind.u64.wrap (x4_5 * 10)) + (((bt x0_23 x9_5) - 48) % 256))) > 1000000000000000000)) (wrap64 (x9_5 + 1)))) else (stencilref02_Parse.l2 kj27 x0_23 x3_19 x4_5 x5_5 x6_5 true x8_5 (wrap64 (x9_5 + 1))))))) else (none)) else (none)) = some (r1, r2) := by rw [if_neg (show ¬ (false = true) by decide)] at H; exact H
                              clear H
                              have H := H1
                              clear H1
                              by_cases c33 : 0 ≤ x9_5
                              · rw [if_pos c33] at H
                                have c33b0 : decide (0 ≤ x9_5) = true := decide_eq_true c33
                                clear c33
                                by_cases c34 : x9_5 < (x0_23.size : Int)
                                · rw [if_pos c34] at H
                                  have c34b0 : decide (x9_5 < (x0_23.size : Int)) = true := decide_eq_true c34
                                  clear c34
                                  by_cases c36 : (bt x0_23 x9_5) < 48
                                  · rw [if_pos c36] at H
                                    have c36b0 : decide ((bt x0_23 x9_5) < 48) = true := decide_eq_true c36
                                    clear c36
                                    replace H := Option.bind_eq_some_iff.mp H
                                    obtain ⟨⟨t254, t255⟩, A370, H⟩ := H
                                    replace H : (some (t254, t255)) = some (r1, r2) := H
                                    have A37 := Aside0.mk A370
                                    clear A370
                                    simp only [Option.some.injEq, Prod.mk.injEq] at H
                                    obtain ⟨rfl, rfl⟩ := H
                                    have p35 : 0 ≤ (x9_5 : Int) := of_decide_eq_true (by first | (with_reducible assumption) | assumption)
                                    have q35 : x9_5 < (x0_23.size : Int) := of_decide_eq_true (by first | (with_reducible assumption) | assumption)
                                    have hx35 := bt_at x0_23 x9_5
                                    replace p35 := eq_true p35
                                    replace q35 := eq_true q35
                                    go_wp2_with (first | ((with_reducible refine gate_callee (f := 76) rfl ?_); refine goesL_ (some 73) rfl rfl Tryz.func76 (by kernel_rfl) rfl #[] rfl (by (try simp only [List.map_toArray, List.map_cons, List.map_nil]); first | done | rfl | (simp only [List.length_drop, List.length_take]; rfl)) ?_; (with_reducible refine (stencilref02_Nan.calls  t254 t255 _ ?side1 A37.out).mono ?_); (case side1 => first | exact HLD | exact Laid.below HLD (by repeat (first | (with_reducible first | exact HB.out | apply below_alloc | apply pw_below_drewN | apply below_drew1 | refine below_set ?_ GE251.out) | exact HB.out))); rintro e w38 ⟨rfl, hb⟩; refine ⟨_, rfl, ?_⟩; have n0_ := Aside0.mk (blk_below (g := gb251) (o := .cells #[.int .i64 x252000_5, .int .i64 x252001_5] 24 (0, 0)) (by (with_reducible repeat (first | refine blk_drewN ?_ _ | refine blk_drew ?_ | refine blk_alloc ?_ _)); exact BK251.out) hb); have n1_ := Aside0.mk (below_step (by repeat (first | (with_reducible first | exact HB.out | apply below_alloc | apply pw_below_drewN | apply below_drew1 | refine below_set ?_ GE251.out) | exact HB.out)) hb); clear BK251; clear HB; have BK251 := n0_; have HB := n1_; clear n0_ n1_; (try clear hb); (try clear hb2); (try clear hk); (try clear hi); have hcz39_0 : w38.cell? ⟨gb251, 0, none⟩ = some (.int .i64 x252000_5) := (blk_cell BK251.out 0).trans rfl; have hcz39_1 : w38.cell? ⟨gb251, 1, none⟩ = some (.int .i64 x252001_5) := (blk_cell BK251.out 1).trans rfl; have hfz39_0 := blk_frozen BK251.out 0; have hfz39_1 := blk_frozen BK251.out 1))
                                    refine bodyPost_ret (results_cell_row rfl _ _ gb251 24 #[.int .i64 t254, .int .i64 t255] (0, 0) _ rfl (by (with_reducible repeat (first | refine blk_drewN ?_ _ | refine blk_drew ?_ | refine blk_alloc ?_ _)); refine blk_put (cs := #[.int .i64 t254, .int .i64 x252001_5]) ?_ 1 _ rfl; (with_reducible repeat (first | refine blk_drewN ?_ _ | refine blk_drew ?_ | refine blk_alloc ?_ _)); refine blk_put (cs := #[.int .i64 x252000_5, .int .i64 x252001_5]) ?_ 0 _ rfl; (with_reducible repeat (first | refine blk_drewN ?_ _ | refine blk_drew ?_ | refine blk_alloc ?_ _)); exact BK251.out) Tryz.underlying24 rfl (by kernel_rfl)) rfl ?_
                                    exact ⟨by first | rfl | (simp [errW_none, errW_some] <;> rfl) | (simp [*, errW_none, errW_some] <;> rfl), by repeat (first | (with_reducible first | exact HB.out | apply below_alloc | apply pw_below_drewN | apply below_drew1 | refine below_set ?_ GE251.out) | exact HB.out)⟩
                                  · rw [if_neg c36] at H
                                    have c36b0 : decide ((bt x0_23 x9_5) < 48) = false := decide_eq_false c36
                                    clear c36
                                    by_cases c41 : (bt x0_23 x9_5) > 57
                                    · rw [if_pos c41] at H
                                      have c41b0 : decide (57 < (bt x0_23 x9_5)) = true := decide_eq_true c41
                                      clear c41
                                      replace H := Option.bind_eq_some_iff.mp H
                                      obtain ⟨⟨t256, t257⟩, A420, H⟩ := H
                                      replace H : (some (t256, t257)) = some (r1, r2) := H
                                      have A42 := Aside0.mk A420
                                      clear A420
                                      simp only [Option.some.injEq, Prod.mk.injEq] at H
                                      obtain ⟨rfl, rfl⟩ := H
                                      have p35 : 0 ≤ (x9_5 : Int) := of_decide_eq_true (by first | (with_reducible assumption) | assumption)
                                      have q35 : x9_5 < (x0_23.size : Int) := of_decide_eq_true (by first | (with_reducible assumption) | assumption)
                                      have hx35 := bt_at x0_23 x9_5
                                      replace p35 := eq_true p35
                                      replace q35 := eq_true q35
                                      have p40 : 0 ≤ (x9_5 : Int) := of_decide_eq_true (by first | (with_reducible assumption) | assumption)
                                      have q40 : x9_5 < (x0_23.size : Int) := of_decide_eq_true (by first | (with_reducible assumption) | assumption)
                                      have hx40 := bt_at x0_23 x9_5
                                      replace p40 := eq_true p40
                                      replace q40 := eq_true q40
                                      go_wp2_with (first | ((with_reducible refine gate_callee (f := 76) rfl ?_); refine goesL_ (some 73) rfl rfl Tryz.func76 (by kernel_rfl) rfl #[] rfl (by (try simp only [List.map_toArray, List.map_cons, List.map_nil]); first | done | rfl | (simp only [List.length_drop, List.length_take]; rfl)) ?_; (with_reducible refine (stencilref02_Nan.calls  t256 t257 _ ?side1 A42.out).mono ?_); (case side1 => first | exact HLD | exact Laid.below HLD (by repeat (first | (with_reducible first | exact HB.out | apply below_alloc | apply pw_below_drewN | apply below_drew1 | refine below_set ?_ GE251.out) | exact HB.out))); rintro e w43 ⟨rfl, hb⟩; refine ⟨_, rfl, ?_⟩; have n0_ := Aside0.mk (blk_below (g := gb251) (o := .cells #[.int .i64 x252000_5, .int .i64 x252001_5] 24 (0, 0)) (by (with_reducible repeat (first | refine blk_drewN ?_ _ | refine blk_drew ?_ | refine blk_alloc ?_ _)); exact BK251.out) hb); have n1_ := Aside0.mk (below_step (by repeat (first | (with_reducible first | exact HB.out | apply below_alloc | apply pw_below_drewN | apply below_drew1 | refine below_set ?_ GE251.out) | exact HB.out)) hb); clear BK251; clear HB; have BK251 := n0_; have HB := n1_; clear n0_ n1_; (try clear hb); (try clear hb2); (try clear hk); (try clear hi); have hcz44_0 : w43.cell? ⟨gb251, 0, none⟩ = some (.int .i64 x252000_5) := (blk_cell BK251.out 0).trans rfl; have hcz44_1 : w43.cell? ⟨gb251, 1, none⟩ = some (.int .i64 x252001_5) := (blk_cell BK251.out 1).trans rfl; have hfz44_0 := blk_frozen BK251.out 0; have hfz44_1 := blk_frozen BK251.out 1))
                                      refine bodyPost_ret (results_cell_row rfl _ _ gb251 24 #[.int .i64 t256, .int .i64 t257] (0, 0) _ rfl (by (with_reducible repeat (first | refine blk_drewN ?_ _ | refine blk_drew ?_ | refine blk_alloc ?_ _)); refine blk_put (cs := #[.int .i64 t256, .int .i64 x252001_5]) ?_ 1 _ rfl; (with_reducible repeat (first | refine blk_drewN ?_ _ | refine blk_drew ?_ | refine blk_alloc ?_ _)); refine blk_put (cs := #[.int .i64 x252000_5, .int .i64 x252001_5]) ?_ 0 _ rfl; (with_reducible repeat (first | refine blk_drewN ?_ _ | refine blk_drew ?_ | refine blk_alloc ?_ _)); exact BK251.out) Tryz.underlying24 rfl (by kernel_rfl)) rfl ?_
                                      exact ⟨by first | rfl | (simp [errW_none, errW_some] <;> rfl) | (simp [*, errW_none, errW_some] <;> rfl), by repeat (first | (with_reducible first | exact HB.out | apply below_alloc | apply pw_below_drewN | apply below_drew1 | refine below_set ?_ GE251.out) | exact HB.out)⟩
                                    · rw [if_neg c41] at H
                                      have c41b0 : decide (57 < (bt x0_23 x9_5)) = false := decide_eq_false c41
                                      clear c41
                                      by_cases c45 : x6_5 = true
                                      · subst c45
                                        have H1 : (if (wrap64 (x5_5 + 1)) ≤ 6 then (if x8_5 = true then (stencilref02_Parse.l2 kj27 x0_23 x3_19 x4_5 (wrap64 (x5_5 + 1)) true true x8_5 (wrap64 (x9_5 + 1))) else (stencilref02_Parse.l2 kj27 x0_23 x3_19 (IntKind.u64.wrap ((IntKind.u64.wrap (x4_5 * 10)) + (((bt x0_23 x9_5) - 48) % 256))) (wrap64 (x5_5 + 1)) true true (decide ((IntKind.u64.wrap ((IntKind.u64.wrap (x4_5 * 10)) + (((bt x0_23 x9_5) - 48) % 256))) > 1000000000000000000)) (wrap64 (x9_5 + 1)))) else (stencilref02_Parse.l2 kj27 x0_23 x3_19 x4_5 (wrap64 (x5_5 + 1)) true true x8_5 (wrap64 (x9_5 + 1)))) = some (r1, r2) := by rw [if_pos rfl] at H; exact H
                                        clear H
                                        have H := H1
                                        clear H1
                                        by_cases c46 : (wrap64 (x5_5 + 1)) ≤ 6
                                        · rw [if_pos c46] at H
                                          have c46b0 : decide ((wrap64 (x5_5 + 1)) ≤ 6) = true := decide_eq_true c46
                                          clear c46
                                          by_cases c47 : x8_5 = true
                                          · subst c47
                                            have H1 : (stencilref02_Parse.l2 kj27 x0_23 x3_19 x4_5 (wrap64 (x5_5 + 1)) true true true (wrap64 (x9_5 + 1))) = some (r1, r2) := by rw [if_pos rfl] at H; exact H
                                            clear H
                                            have H := H1
                                            clear H1
                                            have H' := Aside0.mk H
                                            clear H
                                            have p35 : 0 ≤ (x9_5 : Int) := of_decide_eq_true (by first | (with_reducible assumption) | assumption)
                                            have q35 : x9_5 < (x0_23.size : Int) := of_decide_eq_true (by first | (with_reducible assumption) | assumption)
                                            have hx35 := bt_at x0_23 x9_5
                                            replace p35 := eq_true p35
                                            replace q35 := eq_true q35
                                            have p40 : 0 ≤ (x9_5 : Int) := of_decide_eq_true (by first | (with_reducible assumption) | assumption)
                                            have q40 : x9_5 < (x0_23.size : Int) := of_decide_eq_true (by first | (with_reducible assumption) | assumption)
                                            have hx40 := bt_at x0_23 x9_5
                                            replace p40 := eq_true p40
                                            replace q40 := eq_true q40
                                            go_wp2
                                            go_roundg kj27
                                            case measure => have := HJ1.out; have := HJ9.out; have := HJ19.out; have := HJ23.out; have := HK5.out; have := HJ27.out; omega
                                            case rel => exact ⟨(x4_5), (wrap64 (x5_5 + 1)), (true), (true), (true), (wrap64 (x9_5 + 1)), (x252000_5), (x252001_5), (by first | rfl | (simp; done) | (simp [*]; done)), (by first | rfl | (simp; done) | (simp [*]; done)), (by first | rfl | (simp; done) | (simp [*]; done)), (by first | rfl | (simp; done) | (simp [*]; done)), (by first | rfl | (simp; done) | (simp [*]; done)), (by first | rfl | (simp; done) | (simp [*]; done)), H', ⟨by have := HJ1.out; have := HJ9.out; have := HJ19.out; have := HJ23.out; have := HK5.out; have := HJ27.out; omega⟩, ⟨by (with_reducible repeat (first | refine blk_drewN ?_ _ | refine blk_drew ?_ | refine blk_alloc ?_ _)); exact BK251.out⟩, ⟨by repeat (first | (with_reducible first | exact HB.out | apply below_alloc | apply pw_below_drewN | apply below_drew1 | refine below_set ?_ GE251.out) | exact HB.out)⟩⟩
                                          · replace c47 := Bool.eq_false_iff.mpr c47
                                            subst c47
                                            have H1 : (stencilref02_Parse.l2 kj27 x0_23 x3_19 (IntKind.u64.wrap ((IntKind.u64.wrap (x4_5 * 10)) + (((bt x0_23 x9_5) - 48) % 256))) (wrap64 (x5_5 + 1)) true true (decide ((IntKind.u64.wrap ((IntKind.u64.wrap (x4_5 * 10)) + (((bt x0_23 x9_5) - 48) % 256))) > 1000000000000000000)) (wrap64 (x9_5 + 1))) = some (r1, r2) := by rw [if_neg (show ¬ (false = true) by decide)] at H; exact H
                                            clear H
                                            have H := H1
                                            clear H1
                                            have H' := Aside0.mk H
                                            clear H
                                            have p35 : 0 ≤ (x9_5 : Int) := of_decide_eq_true (by first | (with_reducible assumption) | assumption)
                                            have q35 : x9_5 < (x0_23.size : Int) := of_decide_eq_true (by first | (with_reducible assumption) | assumption)
                                            have hx35 := bt_at x0_23 x9_5
                                            replace p35 := eq_true p35
                                            replace q35 := eq_true q35
                                            have p40 : 0 ≤ (x9_5 : Int) := of_decide_eq_true (by first | (with_reducible assumption) | assumption)
                                            have q40 : x9_5 < (x0_23.size : Int) := of_decide_eq_true (by first | (with_reducible assumption) | assumption)
                                            have hx40 := bt_at x0_23 x9_5
                                            replace p40 := eq_true p40
                                            replace q40 := eq_true q40
                                            have p48 : 0 ≤ (x9_5 : Int) := of_decide_eq_true (by first | (with_reducible assumption) | assumption)
                                            have q48 : x9_5 < (x0_23.size : Int) := of_decide_eq_true (by first | (with_reducible assumption) | assumption)
                                            have hx48 := bt_at x0_23 x9_5
                                            replace p48 := eq_true p48
                                            replace q48 := eq_true q48
                                            go_wp2
                                            go_roundg kj27
                                            case measure => have := HJ1.out; have := HJ9.out; have := HJ19.out; have := HJ23.out; have := HK5.out; have := HJ27.out; omega
                                            case rel => exact ⟨(IntKind.u64.wrap ((IntKind.u64.wrap (x4_5 * 10)) + (((bt x0_23 x9_5) - 48) % 256))), (wrap64 (x5_5 + 1)), (true), (true), (decide ((IntKind.u64.wrap ((IntKind.u64.wrap (x4_5 * 10)) + (((bt x0_23 x9_5) - 48) % 256))) > 1000000000000000000)), (wrap64 (x9_5 + 1)), (x252000_5), (x252001_5), (by first | rfl | (simp; done) | (simp [*]; done)), (by first | rfl | (simp; done) | (simp [*]; done)), (by first | rfl | (simp; done) | (simp [*]; done)), (by first | rfl | (simp; done) | (simp [*]; done)), (by first | rfl | (simp; done) | (simp [*]; done)), (by first | rfl | (simp; done) | (simp [*]; done)), H', ⟨by have := HJ1.out; have := HJ9.out; have := HJ19.out; have := HJ23.out; have := HK5.out; have := HJ27.out; omega⟩, ⟨by (with_reducible repeat (first | refine blk_drewN ?_ _ | refine blk_drew ?_ | refine blk_alloc ?_ _)); exact BK251.out⟩, ⟨by repeat (first | (with_reducible first | exact HB.out | apply below_alloc | apply pw_below_drewN | apply below_drew1 | refine below_set ?_ GE251.out) | exact HB.out)⟩⟩
                                        · rw [if_neg c46] at H
                                          have c46b0 : decide ((wrap64 (x5_5 + 1)) ≤ 6) = false := decide_eq_false c46
                                          clear c46
                                          have H' := Aside0.mk H
                                          clear H
                                          have p35 : 0 ≤ (x9_5 : Int) := of_decide_eq_true (by first | (with_reducible assumption) | assumption)
                                          have q35 : x9_5 < (x0_23.size : Int) := of_decide_eq_true (by first | (with_reducible assumption) | assumption)
                                          have hx35 := bt_at x0_23 x9_5
                                          replace p35 := eq_true p35
                                          replace q35 := eq_true q35
                                          have p40 : 0 ≤ (x9_5 : Int) := of_decide_eq_true (by first | (with_reducible assumption) | assumption)
                                          have q40 : x9_5 < (x0_23.size : Int) := of_decide_eq_true (by first | (with_reducible assumption) | assumption)
                                          have hx40 := bt_at x0_23 x9_5
                                          replace p40 := eq_true p40
                                          replace q40 := eq_true q40
                                          go_wp2
                                          go_roundg kj27
                                          case measure => have := HJ1.out; have := HJ9.out; have := HJ19.out; have := HJ23.out; have := HK5.out; have := HJ27.out; omega
                                          case rel => exact ⟨(x4_5), (wrap64 (x5_5 + 1)), (true), (true), (x8_5), (wrap64 (x9_5 + 1)), (x252000_5), (x252001_5), (by first | rfl | (simp; done) | (simp [*]; done)), (by first | rfl | (simp; done) | (simp [*]; done)), (by first | rfl | (simp; done) | (simp [*]; done)), (by first | rfl | (simp; done) | (simp [*]; done)), (by first | rfl | (simp; done) | (simp [*]; done)), (by first | rfl | (simp; done) | (simp [*]; done)), H', ⟨by have := HJ1.out; have := HJ9.out; have := HJ19.out; have := HJ23.out; have := HK5.out; have := HJ27.out; omega⟩, ⟨by (with_reducible repeat (first | refine blk_drewN ?_ _ | refine blk_drew ?_ | refine blk_alloc ?_ _)); exact BK251.out⟩, ⟨by repeat (first | (with_reducible first | exact HB.out | apply below_alloc | apply pw_below_drewN | apply below_drew1 | refine below_set ?_ GE251.out) | exact HB.out)⟩⟩
                                      · replace c45 := Bool.eq_false_iff.mpr c45
                                        subst c45
                                        have H1 : (if x5_5 ≤ 6 then (if x8_5 = true then (stencilref02_Parse.l2 kj27 x0_23 x3_19 x4_5 x5_5 false true x8_5 (wrap64 (x9_5 + 1))) else (stencilref02_Parse.l2 kj27 x0_23 x3_19 (IntKind.u64.wrap ((IntKind.u64.wrap (x4_5 * 10)) + (((bt x0_23 x9_5) - 48) % 256))) x5_5 false true (decide ((IntKind.u64.wrap ((IntKind.u64.wrap (x4_5 * 10)) + (((bt x0_23 x9_5) - 48) % 256))) > 1000000000000000000)) (wrap64 (x9_5 + 1)))) else (stencilref02_Parse.l2 kj27 x0_23 x3_19 x4_5 x5_5 false true x8_5 (wrap64 (x9_5 + 1)))) = some (r1, r2) := by rw [if_neg (show ¬ (false = true) by decide)] at H; exact H
                                        clear H
                                        have H := H1
                                        clear H1
                                        by_cases c49 : x5_5 ≤ 6
                                        · rw [if_pos c49] at H
                                          have c49b0 : decide (x5_5 ≤ 6) = true := decide_eq_true c49
                                          clear c49
                                          by_cases c50 : x8_5 = true
                                          · subst c50
                                            have H1 : (stencilref02_Parse.l2 kj27 x0_23 x3_19 x4_5 x5_5 false true true (wrap64 (x9_5 + 1))) = some (r1, r2) := by rw [if_pos rfl] at H; exact H
                                            clear H
                                            have H := H1
                                            clear H1
                                            have H' := Aside0.mk H
                                            clear H
                                            have p35 : 0 ≤ (x9_5 : Int) := of_decide_eq_true (by first | (with_reducible assumption) | assumption)
                                            have q35 : x9_5 < (x0_23.size : Int) := of_decide_eq_true (by first | (with_reducible assumption) | assumption)
                                            have hx35 := bt_at x0_23 x9_5
                                            replace p35 := eq_true p35
                                            replace q35 := eq_true q35
                                            have p40 : 0 ≤ (x9_5 : Int) := of_decide_eq_true (by first | (with_reducible assumption) | assumption)
                                            have q40 : x9_5 < (x0_23.size : Int) := of_decide_eq_true (by first | (with_reducible assumption) | assumption)
                                            have hx40 := bt_at x0_23 x9_5
                                            replace p40 := eq_true p40
                                            replace q40 := eq_true q40
                                            go_wp2
                                            go_roundg kj27
                                            case measure => have := HJ1.out; have := HJ9.out; have := HJ19.out; have := HJ23.out; have := HK5.out; have := HJ27.out; omega
                                            case rel => exact ⟨(x4_5), (x5_5), (false), (true), (true), (wrap64 (x9_5 + 1)), (x252000_5), (x252001_5), (by first | rfl | (simp; done) | (simp [*]; done)), (by first | rfl | (simp; done) | (simp [*]; done)), (by first | rfl | (simp; done) | (simp [*]; done)), (by first | rfl | (simp; done) | (simp [*]; done)), (by first | rfl | (simp; done) | (simp [*]; done)), (by first | rfl | (simp; done) | (simp [*]; done)), H', ⟨by have := HJ1.out; have := HJ9.out; have := HJ19.out; have := HJ23.out; have := HK5.out; have := HJ27.out; omega⟩, ⟨by (with_reducible repeat (first | refine blk_drewN ?_ _ | refine blk_drew ?_ | refine blk_alloc ?_ _)); exact BK251.out⟩, ⟨by repeat (first | (with_reducible first | exact HB.out | apply below_alloc | apply pw_below_drewN | apply below_drew1 | refine below_set ?_ GE251.out) | exact HB.out)⟩⟩
                                          · replace c50 := Bool.eq_false_iff.mpr c50
                                            subst c50
                                            have H1 : (stencilref02_Parse.l2 kj27 x0_23 x3_19 (IntKind.u64.wrap ((IntKind.u64.wrap (x4_5 * 10)) + (((bt x0_23 x9_5) - 48) % 256))) x5_5 false true (decide ((IntKind.u64.wrap ((IntKind.u64.wrap (x4_5 * 10)) + (((bt x0_23 x9_5) - 48) % 256))) > 1000000000000000000)) (wrap64 (x9_5 + 1))) = some (r1, r2) := by rw [if_neg (show ¬ (false = true) by decide)] at H; exact H
                                            clear H
                                            have H := H1
                                            clear H1
                                            have H' := Aside0.mk H
                                            clear H
                                            have p35 : 0 ≤ (x9_5 : Int) := of_decide_eq_true (by first | (with_reducible assumption) | assumption)
                                            have q35 : x9_5 < (x0_23.size : Int) := of_decide_eq_true (by first | (with_reducible assumption) | assumption)
                                            have hx35 := bt_at x0_23 x9_5
                                            replace p35 := eq_true p35
                                            replace q35 := eq_true q35
                                            have p40 : 0 ≤ (x9_5 : Int) := of_decide_eq_true (by first | (with_reducible assumption) | assumption)
                                            have q40 : x9_5 < (x0_23.size : Int) := of_decide_eq_true (by first | (with_reducible assumption) | assumption)
                                            have hx40 := bt_at x0_23 x9_5
                                            replace p40 := eq_true p40
                                            replace q40 := eq_true q40
                                            have p51 : 0 ≤ (x9_5 : Int) := of_decide_eq_true (by first | (with_reducible assumption) | assumption)
                                            have q51 : x9_5 < (x0_23.size : Int) := of_decide_eq_true (by first | (with_reducible assumption) | assumption)
                                            have hx51 := bt_at x0_23 x9_5
                                            replace p51 := eq_true p51
                                            replace q51 := eq_true q51
                                            go_wp2
                                            go_roundg kj27
                                            case measure => have := HJ1.out; have := HJ9.out; have := HJ19.out; have := HJ23.out; have := HK5.out; have := HJ27.out; omega
                                            case rel => exact ⟨(IntKind.u64.wrap ((IntKind.u64.wrap (x4_5 * 10)) + (((bt x0_23 x9_5) - 48) % 256))), (x5_5), (false), (true), (decide ((IntKind.u64.wrap ((IntKind.u64.wrap (x4_5 * 10)) + (((bt x0_23 x9_5) - 48) % 256))) > 1000000000000000000)), (wrap64 (x9_5 + 1)), (x252000_5), (x252001_5), (by first | rfl | (simp; done) | (simp [*]; done)), (by first | rfl | (simp; done) | (simp [*]; done)), (by first | rfl | (simp; done) | (simp [*]; done)), (by first | rfl | (simp; done) | (simp [*]; done)), (by first | rfl | (simp; done) | (simp [*]; done)), (by first | rfl | (simp; done) | (simp [*]; done)), H', ⟨by have := HJ1.out; have := HJ9.out; have := HJ19.out; have := HJ23.out; have := HK5.out; have := HJ27.out; omega⟩, ⟨by (with_reducible repeat (first | refine blk_drewN ?_ _ | refine blk_drew ?_ | refine blk_alloc ?_ _)); exact BK251.out⟩, ⟨by repeat (first | (with_reducible first | exact HB.out | apply below_alloc | apply pw_below_drewN | apply below_drew1 | refine below_set ?_ GE251.out) | exact HB.out)⟩⟩
                                        · rw [if_neg c49] at H
                                          have c49b0 : decide (x5_5 ≤ 6) = false := decide_eq_false c49
                                          clear c49
                                          have H' := Aside0.mk H
                                          clear H
                                          have p35 : 0 ≤ (x9_5 : Int) := of_decide_eq_true (by first | (with_reducible assumption) | assumption)
                                          have q35 : x9_5 < (x0_23.size : Int) := of_decide_eq_true (by first | (with_reducible assumption) | assumption)
                                          have hx35 := bt_at x0_23 x9_5
                                          replace p35 := eq_true p35
                                          replace q35 := eq_true q35
                                          have p40 : 0 ≤ (x9_5 : Int) := of_decide_eq_true (by first | (with_reducible assumption) | assumption)
                                          have q40 : x9_5 < (x0_23.size : Int) := of_decide_eq_true (by first | (with_reducible assumption) | assumption)
                                          have hx40 := bt_at x0_23 x9_5
                                          replace p40 := eq_true p40
                                          replace q40 := eq_true q40
                                          go_wp2
                                          go_roundg kj27
                                          case measure => have := HJ1.out; have := HJ9.out; have := HJ19.out; have := HJ23.out; have := HK5.out; have := HJ27.out; omega
                                          case rel => exact ⟨(x4_5), (x5_5), (false), (true), (x8_5), (wrap64 (x9_5 + 1)), (x252000_5), (x252001_5), (by first | rfl | (simp; done) | (simp [*]; done)), (by first | rfl | (simp; done) | (simp [*]; done)), (by first | rfl | (simp; done) | (simp [*]; done)), (by first | rfl | (simp; done) | (simp [*]; done)), (by first | rfl | (simp; done) | (simp [*]; done)), (by first | rfl | (simp; done) | (simp [*]; done)), H', ⟨by have := HJ1.out; have := HJ9.out; have := HJ19.out; have := HJ23.out; have := HK5.out; have := HJ27.out; omega⟩, ⟨by (with_reducible repeat (first | refine blk_drewN ?_ _ | refine blk_drew ?_ | refine blk_alloc ?_ _)); exact BK251.out⟩, ⟨by repeat (first | (with_reducible first | exact HB.out | apply below_alloc | apply pw_below_drewN | apply below_drew1 | refine below_set ?_ GE251.out) | exact HB.out)⟩⟩
                                · rw [if_neg c34] at H
                                  exact absurd H (by simp)
                              · rw [if_neg c33] at H
                                exact absurd H (by simp)
                      · rw [if_neg c27] at H
                        have c27b0 : decide (x9_5 < (x0_23.size : Int)) = false := decide_eq_false c27
                        clear c27
                        by_cases c52 : x7_5 = true
                        · subst c52
                          have H1 : (if x8_5 = true then ((stencilref02_Inf.f x3_19).bind fun bt260 => (some (bt260.1, bt260.2))) else (stencilref02_Parse.l3 k5 x3_19 x4_5 x5_5)) = some (r1, r2) := by rw [if_pos rfl] at H; exact H
                          clear H
                          have H := H1
                          clear H1
                          by_cases c53 : x8_5 = true
                          · subst c53
                            have H1 : ((stencilref02_Inf.f x3_19).bind fun bt260 => (some (bt260.1, bt260.2))) = some (r1, r2) := by rw [if_pos rfl] at H; exact H
                            clear H
                            have H := H1
                            clear H1
                            replace H := Option.bind_eq_some_iff.mp H
                            obtain ⟨⟨t260, t261⟩, A540, H⟩ := H
                            replace H : (some (t260, t261)) = some (r1, r2) := H
                            have A54 := Aside0.mk A540
                            clear A540
                            simp only [Option.some.injEq, Prod.mk.injEq] at H
                            obtain ⟨rfl, rfl⟩ := H
                            go_wp2_with (first | ((with_reducible refine gate_callee (f := 79) rfl ?_); refine goesL_ (some 98) rfl rfl Tryz.func79 (by kernel_rfl) rfl #[.bool x3_19] rfl (by (try simp only [List.map_toArray, List.map_cons, List.map_nil]); first | done | rfl | (simp only [List.length_drop, List.length_take]; rfl)) ?_; (with_reducible refine (stencilref02_Inf.calls x3_19 t260 t261 _ ?side1 A54.out).mono ?_); (case side1 => first | exact HLD | exact Laid.below HLD (by repeat (first | (with_reducible first | exact HB.out | apply below_alloc | apply pw_below_drewN | apply below_drew1 | refine below_set ?_ GE251.out) | exact HB.out))); rintro e w55 ⟨rfl, hb⟩; refine ⟨_, rfl, ?_⟩; have n0_ := Aside0.mk (blk_below (g := gb251) (o := .cells #[.int .i64 x252000_5, .int .i64 x252001_5] 24 (0, 0)) (by (with_reducible repeat (first | refine blk_drewN ?_ _ | refine blk_drew ?_ | refine blk_alloc ?_ _)); exact BK251.out) hb); have n1_ := Aside0.mk (below_step (by repeat (first | (with_reducible first | exact HB.out | apply below_alloc | apply pw_below_drewN | apply below_drew1 | refine below_set ?_ GE251.out) | exact HB.out)) hb); clear BK251; clear HB; have BK251 := n0_; have HB := n1_; clear n0_ n1_; (try clear hb); (try clear hb2); (try clear hk); (try clear hi); have hcz56_0 : w55.cell? ⟨gb251, 0, none⟩ = some (.int .i64 x252000_5) := (blk_cell BK251.out 0).trans rfl; have hcz56_1 : w55.cell? ⟨gb251, 1, none⟩ = some (.int .i64 x252001_5) := (blk_cell BK251.out 1).trans rfl; have hfz56_0 := blk_frozen BK251.out 0; have hfz56_1 := blk_frozen BK251.out 1))
                            refine bodyPost_ret (results_cell_row rfl _ _ gb251 24 #[.int .i64 t260, .int .i64 t261] (0, 0) _ rfl (by (with_reducible repeat (first | refine blk_drewN ?_ _ | refine blk_drew ?_ | refine blk_alloc ?_ _)); refine blk_put (cs := #[.int .i64 t260, .int .i64 x252001_5]) ?_ 1 _ rfl; (with_reducible repeat (first | refine blk_drewN ?_ _ | refine blk_drew ?_ | refine blk_alloc ?_ _)); refine blk_put (cs := #[.int .i64 x252000_5, .int .i64 x252001_5]) ?_ 0 _ rfl; (with_reducible repeat (first | refine blk_drewN ?_ _ | refine blk_drew ?_ | refine blk_alloc ?_ _)); exact BK251.out) Tryz.underlying24 rfl (by kernel_rfl)) rfl ?_
                            exact ⟨by first | rfl | (simp [errW_none, errW_some] <;> rfl) | (simp [*, errW_none, errW_some] <;> rfl), by repeat (first | (with_reducible first | exact HB.out | apply below_alloc | apply pw_below_drewN | apply below_drew1 | refine below_set ?_ GE251.out) | exact HB.out)⟩
                          · replace c53 := Bool.eq_false_iff.mpr c53
                            subst c53
                            have H1 : (stencilref02_Parse.l3 k5 x3_19 x4_5 x5_5) = some (r1, r2) := by rw [if_neg (show ¬ (false = true) by decide)] at H; exact H
                            clear H
                            have H := H1
                            clear H1
                            have H' := Aside0.mk H
                            clear H
                            go_wp2
                            go_loopg [4, 5] k5 (fun kq v4 v5 w' => ∃ (x4_6 : Int) (x5_6 : Int) (x252000_6 : Int) (x252001_6 : Int), v4 = .int .u64 x4_6 ∧ v5 = .int .i64 x5_6 ∧ Aside0 (stencilref02_Parse.l3 kq x3_19 x4_6 x5_6 = some (r1, r2)) ∧ Aside0 (kq ≤ k5) ∧ Aside0 (w'.heap[gb251]? = some (.cells #[.int .i64 x252000_6, .int .i64 x252001_6] 24 (0, 0))) ∧ Aside0 (Below w.heap.size w w'))
                            case atStart => exact ⟨(x4_5), (x5_5), (x252000_5), (x252001_5), (by first | rfl | (simp; done) | (simp [*]; done)), (by first | rfl | (simp; done) | (simp [*]; done)), H', ⟨Nat.le_refl _⟩, ⟨by (with_reducible repeat (first | refine blk_drewN ?_ _ | refine blk_drew ?_ | refine blk_alloc ?_ _)); exact BK251.out⟩, ⟨by repeat (first | (with_reducible first | exact HB.out | apply below_alloc | apply pw_below_drewN | apply below_drew1 | refine below_set ?_ GE251.out) | exact HB.out)⟩⟩
                            case round =>
                              clear H'
                              try clear c1
                              try clear p1
                              try clear q1
                              try clear hx1
                              try clear c2
                              try clear p2
                              try clear q2
                              try clear hx2
                              try clear qi2
                              try clear c3
                              try clear p3
                              try clear q3
                              try clear hx3
                              try clear c4
                              try clear c4b0
                              try clear c4b1
                              try clear p4
                              try clear q4
                              try clear hx4
                              try clear c5
                              try clear c5b0
                              try clear c5b1
                              try clear p5
                              try clear q5
                              try clear hx5
                              try clear p6
                              try clear q6
                              try clear hx6
                              try clear qi6
                              try clear c7
                              try clear c8
                              try clear c9
                              try clear c9b0
                              try clear c9b1
                              try clear c11
                              try clear c11b0
                              try clear c11b1
                              try clear c13
                              try clear c13b0
                              try clear c14
                              try clear c14b0
                              try clear p15
                              try clear q15
                              try clear hx15
                              try clear c17
                              try clear c18
                              try clear c18b0
                              try clear c19
                              try clear c19b0
                              try clear c19b1
                              try clear c21
                              try clear c21b0
                              try clear c21b1
                              try clear c22
                              try clear c22b0
                              try clear c22b1
                              try clear p23
                              try clear q23
                              try clear hx23
                              try clear qi23
                              try clear c25
                              try clear c26
                              try clear c26b0
                              try clear c26b1
                              try clear c27
                              try clear c27b0
                              try clear c29
                              try clear c29b0
                              try clear p30
                              try clear q30
                              try clear hx30
                              try clear c31
                              try clear c31b0
                              try clear c31b1
                              try clear c32
                              try clear c33
                              try clear c33b0
                              try clear c34
                              try clear c34b0
                              try clear p35
                              try clear q35
                              try clear hx35
                              try clear c36
                              try clear c36b0
                              try clear p40
                              try clear q40
                              try clear hx40
                              try clear c41
                              try clear c41b0
                              try clear c45
                              try clear c46
                              try clear c46b0
                              try clear c47
                              try clear p48
                              try clear q48
                              try clear hx48
                              try clear c49
                              try clear c49b0
                              try clear c50
                              try clear p51
                              try clear q51
                              try clear hx51
                              try clear c52
                              try clear c53
                              try clear hcz39_0
                              try clear hcz39_1
                              try clear hcz44_0
                              try clear hcz44_1
                              try clear hcz56_0
                              try clear hcz56_1
                              try clear hfz39_0
                              try clear hfz39_1
                              try clear hfz44_0
                              try clear hfz44_1
                              try clear hfz56_0
                              try clear hfz56_1
                              try clear p1
                              try clear p15
                              try clear p2
                              try clear p23
                              try clear p3
                              try clear p30
                              try clear p35
                              try clear p40
                              try clear p48
                              try clear p51
                              try clear p6
                              try clear q1
                              try clear q15
                              try clear q2
                              try clear q23
                              try clear q3
                              try clear q30
                              try clear q35
                              try clear q40
                              try clear q48
                              try clear q51
                              try clear q6
                              obtain ⟨x4_6, x5_6, x252000_6, x252001_6, rfl, rfl, HA, HK6, BK251, HB⟩ := hrel
                              cases gk with
                              | zero => exact absurd HA.out (by simp [stencilref02_Parse.l3])
                              | succ k6 =>
                                have H := HA.out
                                clear HA
                                simp only [stencilref02_Parse.l3] at H
                                by_cases c57 : x5_6 < 6
                                · rw [if_pos c57] at H
                                  have c57b0 : decide (x5_6 < 6) = true := decide_eq_true c57
                                  clear c57
                                  by_cases c58 : x4_6 > 100000000000000000
                                  · rw [if_pos c58] at H
                                    have c58b0 : decide (100000000000000000 < x4_6) = true := decide_eq_true c58
                                    clear c58
                                    replace H := Option.bind_eq_some_iff.mp H
                                    obtain ⟨⟨t262, t263⟩, A590, H⟩ := H
                                    replace H : (some (t262, t263)) = some (r1, r2) := H
                                    have A59 := Aside0.mk A590
                                    clear A590
                                    simp only [Option.some.injEq, Prod.mk.injEq] at H
                                    obtain ⟨rfl, rfl⟩ := H
                                    go_wp2_with (first | ((with_reducible refine gate_callee (f := 79) rfl ?_); refine goesL_ (some 106) rfl rfl Tryz.func79 (by kernel_rfl) rfl #[.bool x3_19] rfl (by (try simp only [List.map_toArray, List.map_cons, List.map_nil]); first | done | rfl | (simp only [List.length_drop, List.length_take]; rfl)) ?_; (with_reducible refine (stencilref02_Inf.calls x3_19 t262 t263 _ ?side1 A59.out).mono ?_); (case side1 => first | exact HLD | exact Laid.below HLD (by repeat (first | (with_reducible first | exact HB.out | apply below_alloc | apply pw_below_drewN | apply below_drew1 | refine below_set ?_ GE251.out) | exact HB.out))); rintro e w60 ⟨rfl, hb⟩; refine ⟨_, rfl, ?_⟩; have n0_ := Aside0.mk (blk_below (g := gb251) (o := .cells #[.int .i64 x252000_6, .int .i64 x252001_6] 24 (0, 0)) (by (with_reducible repeat (first | refine blk_drewN ?_ _ | refine blk_drew ?_ | refine blk_alloc ?_ _)); exact BK251.out) hb); have n1_ := Aside0.mk (below_step (by repeat (first | (with_reducible first | exact HB.out | apply below_alloc | apply pw_below_drewN | apply below_drew1 | refine below_set ?_ GE251.out) | exact HB.out)) hb); clear BK251; clear HB; have BK251 := n0_; have HB := n1_; clear n0_ n1_; (try clear hb); (try clear hb2); (try clear hk); (try clear hi); have hcz61_0 : w60.cell? ⟨gb251, 0, none⟩ = some (.int .i64 x252000_6) := (blk_cell BK251.out 0).trans rfl; have hcz61_1 : w60.cell? ⟨gb251, 1, none⟩ = some (.int .i64 x252001_6) := (blk_cell BK251.out 1).trans rfl; have hfz61_0 := blk_frozen BK251.out 0; have hfz61_1 := blk_frozen BK251.out 1))
                                    refine bodyPost_ret (results_cell_row rfl _ _ gb251 24 #[.int .i64 t262, .int .i64 t263] (0, 0) _ rfl (by (with_reducible repeat (first | refine blk_drewN ?_ _ | refine blk_drew ?_ | refine blk_alloc ?_ _)); refine blk_put (cs := #[.int .i64 t262, .int .i64 x252001_6]) ?_ 1 _ rfl; (with_reducible repeat (first | refine blk_drewN ?_ _ | refine blk_drew ?_ | refine blk_alloc ?_ _)); refine blk_put (cs := #[.int .i64 x252000_6, .int .i64 x252001_6]) ?_ 0 _ rfl; (with_reducible repeat (first | refine blk_drewN ?_ _ | refine blk_drew ?_ | refine blk_alloc ?_ _)); exact BK251.out) Tryz.underlying24 rfl (by kernel_rfl)) rfl ?_
                                    exact ⟨by first | rfl | (simp [errW_none, errW_some] <;> rfl) | (simp [*, errW_none, errW_some] <;> rfl), by repeat (first | (with_reducible first | exact HB.out | apply below_alloc | apply pw_below_drewN | apply below_drew1 | refine below_set ?_ GE251.out) | exact HB.out)⟩
                                  · rw [if_neg c58] at H
                                    have c58b0 : decide (100000000000000000 < x4_6) = false := decide_eq_false c58
                                    clear c58
                                    have H' := Aside0.mk H
                                    clear H
                                    go_wp2
                                    go_roundg k6
                                    case measure => have := HJ1.out; have := HJ9.out; have := HJ19.out; have := HJ23.out; have := HK5.out; have := HK6.out; omega
                                    case rel => exact ⟨(IntKind.u64.wrap (x4_6 * 10)), (wrap64 (x5_6 + 1)), (x252000_6), (x252001_6), (by first | rfl | (simp; done) | (simp [*]; done)), (by first | rfl | (simp; done) | (simp [*]; done)), H', ⟨by have := HJ1.out; have := HJ9.out; have := HJ19.out; have := HJ23.out; have := HK5.out; have := HK6.out; omega⟩, ⟨by (with_reducible repeat (first | refine blk_drewN ?_ _ | refine blk_drew ?_ | refine blk_alloc ?_ _)); exact BK251.out⟩, ⟨by repeat (first | (with_reducible first | exact HB.out | apply below_alloc | apply pw_below_drewN | apply below_drew1 | refine below_set ?_ GE251.out) | exact HB.out)⟩⟩
                                · rw [if_neg c57] at H
                                  have c57b0 : decide (x5_6 < 6) = false := decide_eq_false c57
                                  clear c57
                                  replace H := Option.bind_eq_some_iff.mp H
                                  obtain ⟨⟨t264, t265⟩, A620, H⟩ := H
                                  replace H : (some (t264, t265)) = some (r1, r2) := H
                                  have A62 := Aside0.mk A620
                                  clear A620
                                  simp only [Option.some.injEq, Prod.mk.injEq] at H
                                  obtain ⟨rfl, rfl⟩ := H
                                  go_wp2_with (first | ((with_reducible refine gate_callee (f := 77) rfl ?_); refine goesL_ (some 111) rfl rfl Tryz.func77 (by kernel_rfl) rfl #[.int .u64 x4_6, .bool x3_19, .bool false] rfl (by (try simp only [List.map_toArray, List.map_cons, List.map_nil]); first | done | rfl | (simp only [List.length_drop, List.length_take]; rfl)) ?_; (with_reducible refine (stencilref02_made.calls k6 x4_6 x3_19 false t264 t265 _ ?side1 A62.out).mono ?_); (case side1 => first | exact HLD | exact Laid.below HLD (by repeat (first | (with_reducible first | exact HB.out | apply below_alloc | apply pw_below_drewN | apply below_drew1 | refine below_set ?_ GE251.out) | exact HB.out))); rintro e w63 ⟨rfl, hb⟩; refine ⟨_, rfl, ?_⟩; have n0_ := Aside0.mk (blk_below (g := gb251) (o := .cells #[.int .i64 x252000_6, .int .i64 x252001_6] 24 (0, 0)) (by (with_reducible repeat (first | refine blk_drewN ?_ _ | refine blk_drew ?_ | refine blk_alloc ?_ _)); exact BK251.out) hb); have n1_ := Aside0.mk (below_step (by repeat (first | (with_reducible first | exact HB.out | apply below_alloc | apply pw_below_drewN | apply below_drew1 | refine below_set ?_ GE251.out) | exact HB.out)) hb); clear BK251; clear HB; have BK251 := n0_; have HB := n1_; clear n0_ n1_; (try clear hb); (try clear hb2); (try clear hk); (try clear hi); have hcz64_0 : w63.cell? ⟨gb251, 0, none⟩ = some (.int .i64 x252000_6) := (blk_cell BK251.out 0).trans rfl; have hcz64_1 : w63.cell? ⟨gb251, 1, none⟩ = some (.int .i64 x252001_6) := (blk_cell BK251.out 1).trans rfl; have hfz64_0 := blk_frozen BK251.out 0; have hfz64_1 := blk_frozen BK251.out 1))
                                  refine bodyPost_ret (results_cell_row rfl _ _ gb251 24 #[.int .i64 t264, .int .i64 t265] (0, 0) _ rfl (by (with_reducible repeat (first | refine blk_drewN ?_ _ | refine blk_drew ?_ | refine blk_alloc ?_ _)); refine blk_put (cs := #[.int .i64 t264, .int .i64 x252001_6]) ?_ 1 _ rfl; (with_reducible repeat (first | refine blk_drewN ?_ _ | refine blk_drew ?_ | refine blk_alloc ?_ _)); refine blk_put (cs := #[.int .i64 x252000_6, .int .i64 x252001_6]) ?_ 0 _ rfl; (with_reducible repeat (first | refine blk_drewN ?_ _ | refine blk_drew ?_ | refine blk_alloc ?_ _)); exact BK251.out) Tryz.underlying24 rfl (by kernel_rfl)) rfl ?_
                                  exact ⟨by first | rfl | (simp [errW_none, errW_some] <;> rfl) | (simp [*, errW_none, errW_some] <;> rfl), by repeat (first | (with_reducible first | exact HB.out | apply below_alloc | apply pw_below_drewN | apply below_drew1 | refine below_set ?_ GE251.out) | exact HB.out)⟩
                        · replace c52 := Bool.eq_false_iff.mpr c52
                          subst c52
                          have H1 : ((stencilref02_Nan.f).bind fun bt258 => (some (bt258.1, bt258.2))) = some (r1, r2) := by rw [if_neg (show ¬ (false = true) by decide)] at H; exact H
                          clear H
                          have H := H1
                          clear H1
                          replace H := Option.bind_eq_some_iff.mp H
                          obtain ⟨⟨t258, t259⟩, A650, H⟩ := H
                          replace H : (some (t258, t259)) = some (r1, r2) := H
                          have A65 := Aside0.mk A650
                          clear A650
                          simp only [Option.some.injEq, Prod.mk.injEq] at H
                          obtain ⟨rfl, rfl⟩ := H
                          go_wp2_with (first | ((with_reducible refine gate_callee (f := 76) rfl ?_); refine goesL_ (some 95) rfl rfl Tryz.func76 (by kernel_rfl) rfl #[] rfl (by (try simp only [List.map_toArray, List.map_cons, List.map_nil]); first | done | rfl | (simp only [List.length_drop, List.length_take]; rfl)) ?_; (with_reducible refine (stencilref02_Nan.calls  t258 t259 _ ?side1 A65.out).mono ?_); (case side1 => first | exact HLD | exact Laid.below HLD (by repeat (first | (with_reducible first | exact HB.out | apply below_alloc | apply pw_below_drewN | apply below_drew1 | refine below_set ?_ GE251.out) | exact HB.out))); rintro e w66 ⟨rfl, hb⟩; refine ⟨_, rfl, ?_⟩; have n0_ := Aside0.mk (blk_below (g := gb251) (o := .cells #[.int .i64 x252000_5, .int .i64 x252001_5] 24 (0, 0)) (by (with_reducible repeat (first | refine blk_drewN ?_ _ | refine blk_drew ?_ | refine blk_alloc ?_ _)); exact BK251.out) hb); have n1_ := Aside0.mk (below_step (by repeat (first | (with_reducible first | exact HB.out | apply below_alloc | apply pw_below_drewN | apply below_drew1 | refine below_set ?_ GE251.out) | exact HB.out)) hb); clear BK251; clear HB; have BK251 := n0_; have HB := n1_; clear n0_ n1_; (try clear hb); (try clear hb2); (try clear hk); (try clear hi); have hcz67_0 : w66.cell? ⟨gb251, 0, none⟩ = some (.int .i64 x252000_5) := (blk_cell BK251.out 0).trans rfl; have hcz67_1 : w66.cell? ⟨gb251, 1, none⟩ = some (.int .i64 x252001_5) := (blk_cell BK251.out 1).trans rfl; have hfz67_0 := blk_frozen BK251.out 0; have hfz67_1 := blk_frozen BK251.out 1))
                          refine bodyPost_ret (results_cell_row rfl _ _ gb251 24 #[.int .i64 t258, .int .i64 t259] (0, 0) _ rfl (by (with_reducible repeat (first | refine blk_drewN ?_ _ | refine blk_drew ?_ | refine blk_alloc ?_ _)); refine blk_put (cs := #[.int .i64 t258, .int .i64 x252001_5]) ?_ 1 _ rfl; (with_reducible repeat (first | refine blk_drewN ?_ _ | refine blk_drew ?_ | refine blk_alloc ?_ _)); refine blk_put (cs := #[.int .i64 x252000_5, .int .i64 x252001_5]) ?_ 0 _ rfl; (with_reducible repeat (first | refine blk_drewN ?_ _ | refine blk_drew ?_ | refine blk_alloc ?_ _)); exact BK251.out) Tryz.underlying24 rfl (by kernel_rfl)) rfl ?_
                          exact ⟨by first | rfl | (simp [errW_none, errW_some] <;> rfl) | (simp [*, errW_none, errW_some] <;> rfl), by repeat (first | (with_reducible first | exact HB.out | apply below_alloc | apply pw_below_drewN | apply below_drew1 | refine below_set ?_ GE251.out) | exact HB.out)⟩

end Go.Proofs.YtfbmojnndbbojaaGreatDoor.Print
