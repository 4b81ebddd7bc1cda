-- Laid by xprint.py (ours), out of the seat's translation; Lean checks it.
import Derived.Test.YtfbmojnndbbojaaGreatDoorPrint0
import Derived.Test.YtfbmojnndbbojaaGreatDoorPrintf18
import Derived.Test.YtfbmojnndbbojaaGreatDoorPrintf26
import Derived.Test.YtfbmojnndbbojaaGreatDoorPrintf80
namespace Go.Proofs.YtfbmojnndbbojaaGreatDoor.Print
open Go.RowKit Go.Proofs.YtfbmojnndbbojaaGreatDoorW.PrintWords Go.Proofs.YtfbmojnndbbojaaGreatDoorW.PrintLast Go.Proofs.YtfbmojnndbbojaaGreatDoorW.PrintMore
attribute [local go_sem] max2_int min2_int max_two min_two max_three min_three max_four min_four   -- for this text's walks alone
open Go.Proofs.YtfbmojnndbbojaaGreatDoor.Plain
set_option linter.unusedVariables false
set_option linter.unusedSimpArgs false

/-! ### stencilref02_Mul: function 28 -/
mutual
def stencilref02_Mul.j0 : Nat → Bool → Int → Int → Int → Int → Option (Int × Int)
 | 0, _, _, _, _, _ => none
 | k + 1, x21, x321000, x321001, x322000, x322001 => if x21 = true then ((stencilref02_Nan.f).bind fun bt323 => (some (bt323.1, bt323.2))) else ((stencilref02_sign.f k x321000 x321001).bind fun t325 => ((stencilref02_sign.f k x322000 x322001).bind fun t326 => (if x321000 = 0 then (stencilref02_Mul.j1 k (decide ((wrap64 (t325 * t326)) < 0)) (x322000 != 0) x321000 x321001 x322000 x322001) else (stencilref02_Mul.j1 k (decide ((wrap64 (t325 * t326)) < 0)) true x321000 x321001 x322000 x322001))))
def stencilref02_Mul.j1 : Nat → Bool → Bool → Int → Int → Int → Int → Option (Int × Int)
 | 0, _, _, _, _, _, _ => none
 | k + 1, x5, x36, x321000, x321001, x322000, x322001 => if x36 = true then ((stencilref02_sign.f k x321000 x321001).bind fun t327 => (if t327 = 0 then (stencilref02_Mul.j2 k x5 true) else ((stencilref02_sign.f k x322000 x322001).bind fun t328 => (stencilref02_Mul.j2 k x5 (t328 == 0))))) else ((stencilref02_size.f x321000 x321001).bind fun t333 => ((stencilref02_digits.f k t333).bind fun t334 => ((stencilref02_size.f x322000 x322001).bind fun t337 => ((stencilref02_digits.f k t337).bind fun t338 => (if 0 ≤ (wrap64 ((wrap64 ((t334.length : Int) + (t338.length : Int))) + 1)) then (if (wrap64 ((wrap64 ((t334.length : Int) + (t338.length : Int))) + 1) : Int).toNat ≤ 35184372088832 then (stencilref02_Mul.l0 k x5 t334 t338 (List.replicate (wrap64 ((wrap64 ((t334.length : Int) + (t338.length : Int))) + 1) : Int).toNat 0) 0) else (none)) else (none))))))
def stencilref02_Mul.j2 : Nat → Bool → Bool → Option (Int × Int)
 | 0, _, _ => none
 | k + 1, x5, x44 => if x44 = true then ((stencilref02_Nan.f).bind fun bt329 => (some (bt329.1, bt329.2))) else ((stencilref02_Inf.f x5).bind fun bt331 => (some (bt331.1, bt331.2)))
def stencilref02_Mul.l0 : Nat → Bool → List Int → List Int → List Int → Int → Option (Int × Int)
 | 0, _, _, _, _, _ => none
 | k + 1, x5, x6, x7, x8, x9 => if x9 < (x6.length : Int) then (stencilref02_Mul.l1 k x5 x6 x7 x8 x9 0) else (stencilref02_Mul.l2 k x5 x8 0)
def stencilref02_Mul.l1 : Nat → Bool → List Int → List Int → List Int → Int → Int → Option (Int × Int)
 | 0, _, _, _, _, _, _ => none
 | k + 1, x5, x6, x7, x8, x9, x10 => if x10 < (x7.length : Int) then (if 0 ≤ (wrap64 (x9 + x10)) then (if (wrap64 (x9 + x10)) < (x8.length : Int) then (if 0 ≤ x9 then (if x9 < (x6.length : Int) then (if 0 ≤ x10 then (stencilref02_Mul.l1 k x5 x6 x7 (x8.set ((wrap64 (x9 + x10)) : Int).toNat (wrap64 ((rd x8 (wrap64 (x9 + x10))) + (wrap64 ((rd x6 x9) * (rd x7 x10)))))) x9 (wrap64 (x10 + 1))) else (none)) else (none)) else (none)) else (none)) else (none)) else (stencilref02_Mul.l0 k x5 x6 x7 x8 (wrap64 (x9 + 1)))
def stencilref02_Mul.l2 : Nat → Bool → List Int → Int → Option (Int × Int)
 | 0, _, _, _ => none
 | k + 1, x5, x8, x11 => if (wrap64 (x11 + 1)) < (x8.length : Int) then (if 0 ≤ (wrap64 (x11 + 1)) then (if 0 ≤ x11 then (if x11 < (x8.length : Int) then ((some (x8.set ((wrap64 (x11 + 1)) : Int).toNat (wrap64 ((rd x8 (wrap64 (x11 + 1))) + (wrap64 (Int.tdiv (rd x8 x11) 10)))) : List Int)).bind fun y350 => (stencilref02_Mul.l2 k x5 (y350.set (x11 : Int).toNat (Int.tmod (rd y350 x11) 10)) (wrap64 (x11 + 1)))) else (none)) else (none)) else (none)) else ((stencilref02_whole.f k x8 6).bind fun bt353 => ((stencilref02_made.f k bt353.1 x5 bt353.2).bind fun bt355 => (some (bt355.1, bt355.2))))
end
def stencilref02_Mul.f (k : Nat) (a0_0 : Int) (a0_1 : Int) (a1_0 : Int) (a1_1 : Int) : Option (Int × Int) := if a0_0 = 1 then (stencilref02_Mul.j0 k true a0_0 a0_1 a1_0 a1_1) else (stencilref02_Mul.j0 k (a1_0 == 1) a0_0 a0_1 a1_0 a1_1)
theorem stencilref02_Mul.mono_l : ∀ k, (∀ y0 y1 y2 y3 y4, LeO (stencilref02_Mul.j0 k y0 y1 y2 y3 y4) (stencilref02_Mul.j0 (k + 1) y0 y1 y2 y3 y4)) ∧ (∀ y0 y1 y2 y3 y4 y5, LeO (stencilref02_Mul.j1 k y0 y1 y2 y3 y4 y5) (stencilref02_Mul.j1 (k + 1) y0 y1 y2 y3 y4 y5)) ∧ (∀ y0 y1, LeO (stencilref02_Mul.j2 k y0 y1) (stencilref02_Mul.j2 (k + 1) y0 y1)) ∧ (∀ y0 y1 y2 y3 y4, LeO (stencilref02_Mul.l0 k y0 y1 y2 y3 y4) (stencilref02_Mul.l0 (k + 1) y0 y1 y2 y3 y4)) ∧ (∀ y0 y1 y2 y3 y4 y5, LeO (stencilref02_Mul.l1 k y0 y1 y2 y3 y4 y5) (stencilref02_Mul.l1 (k + 1) y0 y1 y2 y3 y4 y5)) ∧ (∀ y0 y1 y2, LeO (stencilref02_Mul.l2 k y0 y1 y2) (stencilref02_Mul.l2 (k + 1) y0 y1 y2))
 | 0 => ⟨fun _ _ _ _ _ r h => by simp [stencilref02_Mul.j0] at h, fun _ _ _ _ _ _ r h => by simp [stencilref02_Mul.j1] at h, fun _ _ r h => by simp [stencilref02_Mul.j2] at h, fun _ _ _ _ _ r h => by simp [stencilref02_Mul.l0] at h, fun _ _ _ _ _ _ r h => by simp [stencilref02_Mul.l1] at h, fun _ _ _ r h => by simp [stencilref02_Mul.l2] at h⟩
 | k + 1 => by
  obtain ⟨ih0, ih1, ih2, ih3, ih4, ih5⟩ := stencilref02_Mul.mono_l k
  refine ⟨?_, ?_, ?_, ?_, ?_, ?_⟩
  ·intro y0 y1 y2 y3 y4
   unfold stencilref02_Mul.j0
   repeat' first
   | (with_reducible exact ih0 _ _ _ _ _)
   | (with_reducible exact ih1 _ _ _ _ _ _)
   | (with_reducible exact ih2 _ _)
   | (with_reducible exact ih3 _ _ _ _ _)
   | (with_reducible exact ih4 _ _ _ _ _ _)
   | (with_reducible exact ih5 _ _ _)
   | (with_reducible exact stencilref02_digits.mono _ _)
   | (with_reducible exact stencilref02_made.mono _ _ _ _)
   | (with_reducible exact stencilref02_sign.mono _ _ _)
   | (with_reducible exact stencilref02_whole.mono _ _ _)
   | (with_reducible exact LeO.refl _)
   | (with_reducible exact LeO.none _)
   | (with_reducible refine LeO.ite ?_ ?_)
   | (with_reducible refine LeO.bind ?_ (fun _ => ?_))
   | exact ih0 _ _ _ _ _
   | exact ih1 _ _ _ _ _ _
   | exact ih2 _ _
   | exact ih3 _ _ _ _ _
   | exact ih4 _ _ _ _ _ _
   | exact ih5 _ _ _
   | exact stencilref02_digits.mono _ _
   | exact stencilref02_made.mono _ _ _ _
   | exact stencilref02_sign.mono _ _ _
   | exact stencilref02_whole.mono _ _ _
   | exact LeO.none _
   | refine LeO.ite ?_ ?_
   | refine LeO.bind ?_ (fun _ => ?_)
  ·intro y0 y1 y2 y3 y4 y5
   unfold stencilref02_Mul.j1
   repeat' first
   | (with_reducible exact ih0 _ _ _ _ _)
   | (with_reducible exact ih1 _ _ _ _ _ _)
   | (with_reducible exact ih2 _ _)
   | (with_reducible exact ih3 _ _ _ _ _)
   | (with_reducible exact ih4 _ _ _ _ _ _)
   | (with_reducible exact ih5 _ _ _)
   | (with_reducible exact stencilref02_digits.mono _ _)
   | (with_reducible exact stencilref02_made.mono _ _ _ _)
   | (with_reducible exact stencilref02_sign.mono _ _ _)
   | (with_reducible exact stencilref02_whole.mono _ _ _)
   | (with_reducible exact LeO.refl _)
   | (with_reducible exact LeO.none _)
   | (with_reducible refine LeO.ite ?_ ?_)
   | (with_reducible refine LeO.bind ?_ (fun _ => ?_))
   | exact ih0 _ _ _ _ _
   | exact ih1 _ _ _ _ _ _
   | exact ih2 _ _
   | exact ih3 _ _ _ _ _
   | exact ih4 _ _ _ _ _ _
   | exact ih5 _ _ _
   | exact stencilref02_digits.mono _ _
   | exact stencilref02_made.mono _ _ _ _
   | exact stencilref02_sign.mono _ _ _
   | exact stencilref02_whole.mono _ _ _
   | exact LeO.none _
   | refine LeO.ite ?_ ?_
   | refine LeO.bind ?_ (fun _ => ?_)
  ·intro y0 y1
   unfold stencilref02_Mul.j2
   repeat' first
   | (with_reducible exact ih0 _ _ _ _ _)
   | (with_reducible exact ih1 _ _ _ _ _ _)
   | (with_reducible exact ih2 _ _)
   | (with_reducible exact ih3 _ _ _ _ _)
   | (with_reducible exact ih4 _ _ _ _ _ _)
   | (with_reducible exact ih5 _ _ _)
   | (with_reducible exact stencilref02_digits.mono _ _)
   | (with_reducible exact stencilref02_made.mono _ _ _ _)
   | (with_reducible exact stencilref02_sign.mono _ _ _)
   | (with_reducible exact stencilref02_whole.mono _ _ _)
   | (with_reducible exact LeO.refl _)
   | (with_reducible exact LeO.none _)
   | (with_reducible refine LeO.ite ?_ ?_)
   | (with_reducible refine LeO.bind ?_ (fun _ => ?_))
   | exact ih0 _ _ _ _ _
   | exact ih1 _ _ _ _ _ _
   | exact ih2 _ _
   | exact ih3 _ _ _ _ _
   | exact ih4 _ _ _ _ _ _
   | exact ih5 _ _ _
   | exact stencilref02_digits.mono _ _
   | exact stencilref02_made.mono _ _ _ _
   | exact stencilref02_sign.mono _ _ _
   | exact stencilref02_whole.mono _ _ _
   | exact LeO.none _
   | refine LeO.ite ?_ ?_
   | refine LeO.bind ?_ (fun _ => ?_)
  ·intro y0 y1 y2 y3 y4
   unfold stencilref02_Mul.l0
   repeat' first
   | (with_reducible exact ih0 _ _ _ _ _)
   | (with_reducible exact ih1 _ _ _ _ _ _)
   | (with_reducible exact ih2 _ _)
   | (with_reducible exact ih3 _ _ _ _ _)
   | (with_reducible exact ih4 _ _ _ _ _ _)
   | (with_reducible exact ih5 _ _ _)
   | (with_reducible exact stencilref02_digits.mono _ _)
   | (with_reducible exact stencilref02_made.mono _ _ _ _)
   | (with_reducible exact stencilref02_sign.mono _ _ _)
   | (with_reducible exact stencilref02_whole.mono _ _ _)
   | (with_reducible exact LeO.refl _)
   | (with_reducible exact LeO.none _)
   | (with_reducible refine LeO.ite ?_ ?_)
   | (with_reducible refine LeO.bind ?_ (fun _ => ?_))
   | exact ih0 _ _ _ _ _
   | exact ih1 _ _ _ _ _ _
   | exact ih2 _ _
   | exact ih3 _ _ _ _ _
   | exact ih4 _ _ _ _ _ _
   | exact ih5 _ _ _
   | exact stencilref02_digits.mono _ _
   | exact stencilref02_made.mono _ _ _ _
   | exact stencilref02_sign.mono _ _ _
   | exact stencilref02_whole.mono _ _ _
   | exact LeO.none _
   | refine LeO.ite ?_ ?_
   | refine LeO.bind ?_ (fun _ => ?_)
  ·intro y0 y1 y2 y3 y4 y5
   unfold stencilref02_Mul.l1
   repeat' first
   | (with_reducible exact ih0 _ _ _ _ _)
   | (with_reducible exact ih1 _ _ _ _ _ _)
   | (with_reducible exact ih2 _ _)
   | (with_reducible exact ih3 _ _ _ _ _)
   | (with_reducible exact ih4 _ _ _ _ _ _)
   | (with_reducible exact ih5 _ _ _)
   | (with_reducible exact stencilref02_digits.mono _ _)
   | (with_reducible exact stencilref02_made.mono _ _ _ _)
   | (with_reducible exact stencilref02_sign.mono _ _ _)
   | (with_reducible exact stencilref02_whole.mono _ _ _)
   | (with_reducible exact LeO.refl _)
   | (with_reducible exact LeO.none _)
   | (with_reducible refine LeO.ite ?_ ?_)
   | (with_reducible refine LeO.bind ?_ (fun _ => ?_))
   | exact ih0 _ _ _ _ _
   | exact ih1 _ _ _ _ _ _
   | exact ih2 _ _
   | exact ih3 _ _ _ _ _
   | exact ih4 _ _ _ _ _ _
   | exact ih5 _ _ _
   | exact stencilref02_digits.mono _ _
   | exact stencilref02_made.mono _ _ _ _
   | exact stencilref02_sign.mono _ _ _
   | exact stencilref02_whole.mono _ _ _
   | exact LeO.none _
   | refine LeO.ite ?_ ?_
   | refine LeO.bind ?_ (fun _ => ?_)
  ·intro y0 y1 y2
   unfold stencilref02_Mul.l2
   repeat' first
   | (with_reducible exact ih0 _ _ _ _ _)
   | (with_reducible exact ih1 _ _ _ _ _ _)
   | (with_reducible exact ih2 _ _)
   | (with_reducible exact ih3 _ _ _ _ _)
   | (with_reducible exact ih4 _ _ _ _ _ _)
   | (with_reducible exact ih5 _ _ _)
   | (with_reducible exact stencilref02_digits.mono _ _)
   | (with_reducible exact stencilref02_made.mono _ _ _ _)
   | (with_reducible exact stencilref02_sign.mono _ _ _)
   | (with_reducible exact stencilref02_whole.mono _ _ _)
   | (with_reducible exact LeO.refl _)
   | (with_reducible exact LeO.none _)
   | (with_reducible refine LeO.ite ?_ ?_)
   | (with_reducible refine LeO.bind ?_ (fun _ => ?_))
   | exact ih0 _ _ _ _ _
   | exact ih1 _ _ _ _ _ _
   | exact ih2 _ _
   | exact ih3 _ _ _ _ _
   | exact ih4 _ _ _ _ _ _
   | exact ih5 _ _ _
   | exact stencilref02_digits.mono _ _
   | exact stencilref02_made.mono _ _ _ _
   | exact stencilref02_sign.mono _ _ _
   | exact stencilref02_whole.mono _ _ _
   | exact LeO.none _
   | refine LeO.ite ?_ ?_
   | refine LeO.bind ?_ (fun _ => ?_)
theorem stencilref02_Mul.mono : ∀ a0 a1 a2 a3 k, LeO (stencilref02_Mul.f k a0 a1 a2 a3) (stencilref02_Mul.f (k + 1) a0 a1 a2 a3) := by
 intro a0 a1 a2 a3 k
 obtain ⟨ih0, ih1, ih2, ih3, ih4, ih5⟩ := stencilref02_Mul.mono_l k
 unfold stencilref02_Mul.f
 repeat' first
   | (with_reducible exact ih0 _ _ _ _ _)
   | (with_reducible exact ih1 _ _ _ _ _ _)
   | (with_reducible exact ih2 _ _)
   | (with_reducible exact ih3 _ _ _ _ _)
   | (with_reducible exact ih4 _ _ _ _ _ _)
   | (with_reducible exact ih5 _ _ _)
   | (with_reducible exact stencilref02_digits.mono _ _)
   | (with_reducible exact stencilref02_made.mono _ _ _ _)
   | (with_reducible exact stencilref02_sign.mono _ _ _)
   | (with_reducible exact stencilref02_whole.mono _ _ _)
   | (with_reducible exact LeO.refl _)
   | (with_reducible exact LeO.none _)
   | (with_reducible refine LeO.ite ?_ ?_)
   | (with_reducible refine LeO.bind ?_ (fun _ => ?_))
   | exact ih0 _ _ _ _ _
   | exact ih1 _ _ _ _ _ _
   | exact ih2 _ _
   | exact ih3 _ _ _ _ _
   | exact ih4 _ _ _ _ _ _
   | exact ih5 _ _ _
   | exact stencilref02_digits.mono _ _
   | exact stencilref02_made.mono _ _ _ _
   | exact stencilref02_sign.mono _ _ _
   | exact stencilref02_whole.mono _ _ _
   | exact LeO.none _
   | refine LeO.ite ?_ ?_
   | refine LeO.bind ?_ (fun _ => ?_)
def stencilref02_Mul.T8 : Bool × List (List Nat × List Nat) := (true, [([], []), ([0], [0]), ([1, 1], [1]), ([], []), ([3, 2], [3]), ([4, 4], [4]), ([2, 5, 0, 1, 2], [2]), ([5, 6, 0, 1, 2, 3, 4, 5, 6], [5])])
def stencilref02_Mul.B8 : List Nat := [0, 1, 3, 0, 15, 31, 63, 127]
theorem stencilref02_Mul.tab8 : rtab .any (opsOf Tryz.f28 8) = stencilref02_Mul.T8 := by kernel_rfl
theorem stencilref02_Mul.bits8 : waitsOk stencilref02_Mul.T8.2 stencilref02_Mul.B8 = true := by kernel_rfl
def stencilref02_Mul.T16 : Bool × List (List Nat × List Nat) := (true, [([], []), ([], []), ([], []), ([1, 2], [1, 2]), ([0, 3], [0, 3]), ([4], [4]), ([], []), ([], []), ([6, 7], [6, 7]), ([8], [8]), ([], []), ([], []), ([10, 11], [10, 11]), ([12], [12]), ([9, 13], [9, 13]), ([5, 14], [5, 14]), ([0, 3, 0, 1, 2, 3, 4, 5, 6, 7, 8, 9, 10, 11, 12, 13, 14, 15], [0, 3]), ([16, 15, 0, 1, 2, 3, 4, 5, 6, 7, 8, 9, 10, 11, 12, 13, 14, 15], [15, 16])])
def stencilref02_Mul.B16 : List Nat := [0, 0, 0, 6, 15, 31, 0, 0, 192, 448, 0, 0, 3072, 7168, 16320, 32767, 65535, 131071]
theorem stencilref02_Mul.tab16 : rtab .any (opsOf Tryz.f28 16) = stencilref02_Mul.T16 := by kernel_rfl
theorem stencilref02_Mul.bits16 : waitsOk stencilref02_Mul.T16.2 stencilref02_Mul.B16 = true := by kernel_rfl
def stencilref02_Mul.T20 : Bool × List (List Nat × List Nat) := (true, [([], []), ([], []), ([1], [1]), ([0, 2], [0, 2]), ([3], [3]), ([], []), ([], []), ([5, 6], [5, 6]), ([7], [7]), ([8], [8]), ([4, 9], [4, 9]), ([0, 2, 0, 1, 2, 3, 4, 5, 6, 7, 8, 9, 10], [0, 2]), ([11, 10, 0, 1, 2, 3, 4, 5, 6, 7, 8, 9, 10], [10, 11])])
def stencilref02_Mul.B20 : List Nat := [0, 0, 2, 7, 15, 0, 0, 96, 224, 480, 1023, 2047, 4095]
theorem stencilref02_Mul.tab20 : rtab .any (opsOf Tryz.f28 20) = stencilref02_Mul.T20 := by kernel_rfl
theorem stencilref02_Mul.bits20 : waitsOk stencilref02_Mul.T20.2 stencilref02_Mul.B20 = true := by kernel_rfl
set_option maxHeartbeats 8000000 in
set_option maxRecDepth 100000 in
theorem stencilref02_Mul.calls (k : Nat) (a0_0 : Int) (a0_1 : Int) (a1_0 : Int) (a1_1 : Int) (r1 : Int) (r2 : Int) (w : World) (HLD : Laid w) (h : stencilref02_Mul.f k a0_0 a0_1 a1_0 a1_1 = some (r1, r2)) :
  Calls Tryz.prog 28 #[.agg #[.int .i64 a0_0, .int .i64 a0_1], .agg #[.int .i64 a1_0, .int .i64 a1_1]] w fun e w' => e = .returned (.agg #[.int .i64 r1, .int .i64 r2]) ∧ Below w.heap.size w w' := by
 have hu24 := Tryz.underlying24
 have HB := Aside0.mk (Below.refl w.heap.size w)
 have H : (if a0_0 = 1 then (stencilref02_Mul.j0 k true a0_0 a0_1 a1_0 a1_1) else (stencilref02_Mul.j0 k (a1_0 == 1) a0_0 a0_1 a1_0 a1_1)) = some (r1, r2) := h
 clear h
 have HC3 := Aside0.mk H
 clear H
 go_enter Tryz.func28, Tryz.ntmps28
 go_upto_region 1 with (first | ((with_reducible refine gate_dst (N := 2) rfl ?_); refine box_event ?hg (N := 2) ?hd (cs := #[.int .i64 a0_0, .int .i64 a0_1]) (t := 24) ?hr ?_; (case hd => rfl); (case hg => rfl); (case hr => first | (go_simp; done) | (go_simp; rfl)); intro gb320 hg w4 hbox hb; have GW320 := Aside0.mk ((by rw [hg]; exact (below_size HB.out) : w.heap.size ≤ gb320)); have GE320 := Aside0.mk ((by rw [hg]; exact (below_size HB.out) : w.heap.size ≤ gb320)); replace HB := zs HB hb; have BK320 := Aside0.mk (hbox); clear hb hbox hg) | ((with_reducible refine gate_dst (N := 3) rfl ?_); refine box_event ?hg (N := 3) ?hd (cs := #[.int .i64 a1_0, .int .i64 a1_1]) (t := 24) ?hr ?_; (case hd => rfl); (case hg => rfl); (case hr => first | (go_simp; done) | (go_simp; rfl)); intro gb321 hg w5 hbox hb; have GW321 := Aside0.mk ((by rw [hg]; exact (below_size HB.out) : w.heap.size ≤ gb321)); have GE321 := Aside0.mk ((by rw [hg]; exact (below_size HB.out) : w.heap.size ≤ gb321)); have NB320_321 := Aside0.mk ((by rw [hg]; exact Nat.ne_of_lt (blk_lt (g := gb320) (o := .cells #[.int .i64 a0_0, .int .i64 a0_1] 24 (0, 0)) BK320.out) : gb320 ≠ gb321)); have NB321_320 := Aside0.mk ((by rw [hg]; exact Nat.ne_of_gt (blk_lt (g := gb320) (o := .cells #[.int .i64 a0_0, .int .i64 a0_1] 24 (0, 0)) BK320.out) : gb321 ≠ gb320)); replace BK320 := zb BK320 hb; replace HB := zs HB hb; have BK321 := Aside0.mk (hbox); clear hb hbox hg) | ((with_reducible refine gate_dst (N := 4) rfl ?_); refine box_event ?hg (N := 4) ?hd (cs := #[.int .i64 0, .int .i64 0]) (t := 24) ?hr ?_; (case hd => rfl); (case hg => rfl); (case hr => first | (go_simp; done) | (go_simp; rfl)); intro gb322 hg w6 hbox hb; have GW322 := Aside0.mk ((by rw [hg]; exact (below_size HB.out) : w.heap.size ≤ gb322)); have GE322 := Aside0.mk ((by rw [hg]; exact (below_size HB.out) : w.heap.size ≤ gb322)); have NB320_322 := Aside0.mk ((by rw [hg]; exact Nat.ne_of_lt (blk_lt (g := gb320) (o := .cells #[.int .i64 a0_0, .int .i64 a0_1] 24 (0, 0)) BK320.out) : gb320 ≠ gb322)); have NB322_320 := Aside0.mk ((by rw [hg]; exact Nat.ne_of_gt (blk_lt (g := gb320) (o := .cells #[.int .i64 a0_0, .int .i64 a0_1] 24 (0, 0)) BK320.out) : gb322 ≠ gb320)); have NB321_322 := Aside0.mk ((by rw [hg]; exact Nat.ne_of_lt (blk_lt (g := gb321) (o := .cells #[.int .i64 a1_0, .int .i64 a1_1] 24 (0, 0)) BK321.out) : gb321 ≠ gb322)); have NB322_321 := Aside0.mk ((by rw [hg]; exact Nat.ne_of_gt (blk_lt (g := gb321) (o := .cells #[.int .i64 a1_0, .int .i64 a1_1] 24 (0, 0)) BK321.out) : gb322 ≠ gb321)); replace BK320 := zb BK320 hb; replace BK321 := zb BK321 hb; replace HB := zs HB hb; have BK322 := Aside0.mk (hbox); clear hb hbox hg))
 (try simp only [Act.put, List.setIfInBounds_toArray, List.set_cons_zero, List.set_cons_succ])
 go_cut [21] (fun v21 wc => ∃ (kq : Nat) (x21_2 : Bool), v21 = .bool x21_2 ∧ Aside0 (stencilref02_Mul.j0 kq x21_2 a0_0 a0_1 a1_0 a1_1 = some (r1, r2)) ∧ Aside0 (kq ≤ k) ∧ Aside0 (wc.heap[gb320]? = some (.cells #[.int .i64 a0_0, .int .i64 a0_1] 24 (0, 0))) ∧ Aside0 (wc.heap[gb321]? = some (.cells #[.int .i64 a1_0, .int .i64 a1_1] 24 (0, 0))) ∧ Aside0 (wc.heap[gb322]? = some (.cells #[.int .i64 0, .int .i64 0] 24 (0, 0))) ∧ Aside0 (Below w.heap.size w wc))
 case first =>
  have H := HC3.out
  clear HC3
  by_cases c7 : a0_0 = 1
  ·rw [if_pos c7] at H
   have c7b0 : (a0_0 == 1) = true := beq_iff_eq.mpr c7
   have c7b1 : (a0_0 != 1) = false := bne_eq_false_iff_eq.mpr c7
   clear c7
   (first | rw [c7b0] | (simp only [i64_w, i32_w]; rw [c7b0]) | skip)
   have H' := Aside0.mk H
   clear H
   have hnb8 := NB320_321.out
   have hnc8 := NB321_320.out
   have hnb9 := NB320_322.out
   have hnc9 := NB322_320.out
   have hcz10_0 : w6.cell? ⟨gb320, 0, none⟩ = some (.int .i64 a0_0) := (blk_cell BK320.out 0).trans rfl
   have hcz10_1 : w6.cell? ⟨gb320, 1, none⟩ = some (.int .i64 a0_1) := (blk_cell BK320.out 1).trans rfl
   have hfz10_0 := blk_frozen BK320.out 0
   have hfz10_1 := blk_frozen BK320.out 1
   go_wp2
   go_meet
   case rel => exact ⟨_, (true), (by first | rfl | (simp; done) | (simp [*]; done)), H', ⟨by first | omega | exact Nat.le_refl _⟩, ⟨by (with_reducible repeat (first | refine blk_drewN ?_ _ | refine blk_drew ?_ | refine blk_alloc ?_ _)); exact BK320.out⟩, ⟨by (with_reducible repeat (first | refine blk_drewN ?_ _ | refine blk_drew ?_ | refine blk_alloc ?_ _)); exact BK321.out⟩, ⟨by (with_reducible repeat (first | refine blk_drewN ?_ _ | refine blk_drew ?_ | refine blk_alloc ?_ _)); exact BK322.out⟩, ⟨by repeat (first | (with_reducible first | exact HB.out | apply below_alloc | apply pw_below_drewN | apply below_drew1 | refine below_set ?_ GE320.out | refine below_set ?_ GE321.out | refine below_set ?_ GE322.out) | exact HB.out)⟩⟩
  ·rw [if_neg c7] at H
   have c7b0 : (a0_0 == 1) = false := beq_eq_false_iff_ne.mpr c7
   have c7b1 : (a0_0 != 1) = true := bne_iff_ne.mpr c7
   (first | rw [c7b0] | (simp only [i64_w, i32_w]; rw [c7b0]) | skip)
   have H' := Aside0.mk H
   clear H
   have hnb11 := NB320_321.out
   have hnc11 := NB321_320.out
   have hnb12 := NB320_322.out
   have hnc12 := NB322_320.out
   have hcz13_0 : w6.cell? ⟨gb320, 0, none⟩ = some (.int .i64 a0_0) := (blk_cell BK320.out 0).trans rfl
   have hcz13_1 : w6.cell? ⟨gb320, 1, none⟩ = some (.int .i64 a0_1) := (blk_cell BK320.out 1).trans rfl
   have hfz13_0 := blk_frozen BK320.out 0
   have hfz13_1 := blk_frozen BK320.out 1
   have hnb14 := NB321_322.out
   have hnc14 := NB322_321.out
   have hcz15_0 : w6.cell? ⟨gb321, 0, none⟩ = some (.int .i64 a1_0) := (blk_cell BK321.out 0).trans rfl
   have hcz15_1 : w6.cell? ⟨gb321, 1, none⟩ = some (.int .i64 a1_1) := (blk_cell BK321.out 1).trans rfl
   have hfz15_0 := blk_frozen BK321.out 0
   have hfz15_1 := blk_frozen BK321.out 1
   go_wp2
   go_meet
   case rel => exact ⟨_, ((a1_0 == 1)), (by first | rfl | (simp; done) | (simp [*]; done)), H', ⟨by first | omega | exact Nat.le_refl _⟩, ⟨by (with_reducible repeat (first | refine blk_drewN ?_ _ | refine blk_drew ?_ | refine blk_alloc ?_ _)); exact BK320.out⟩, ⟨by (with_reducible repeat (first | refine blk_drewN ?_ _ | refine blk_drew ?_ | refine blk_alloc ?_ _)); exact BK321.out⟩, ⟨by (with_reducible repeat (first | refine blk_drewN ?_ _ | refine blk_drew ?_ | refine blk_alloc ?_ _)); exact BK322.out⟩, ⟨by repeat (first | (with_reducible first | exact HB.out | apply below_alloc | apply pw_below_drewN | apply below_drew1 | refine below_set ?_ GE320.out | refine below_set ?_ GE321.out | refine below_set ?_ GE322.out) | exact HB.out)⟩⟩
 case rest =>
  clear HC3
  try clear c1; try clear c2; try clear p2; try clear c7; try clear c7b0; try clear c7b1; try clear c8; try clear c9; try clear c11; try clear c12; try clear c14; try clear hcz10_0; try clear hcz10_1; try clear hcz13_0; try clear hcz13_1; try clear hcz15_0; try clear hcz15_1; try clear hfz10_0; try clear hfz10_1; try clear hfz13_0; try clear hfz13_1; try clear hfz15_0; try clear hfz15_1
  obtain ⟨kq, x21_2, rfl, HA, HJ2, BK320, BK321, BK322, HB⟩ := hcut
  cases kq with
  | zero => exact absurd HA.out (by simp [stencilref02_Mul.j0])
  | succ kj2 =>
   have H := HA.out
   clear HA
   simp only [stencilref02_Mul.j0] at H
   by_cases c16 : x21_2 = true
   ·subst c16
    have H1 : ((stencilref02_Nan.f).bind fun bt323 => (some (bt323.1, bt323.2))) = some (r1, r2) := by rw [if_pos rfl] at H; exact H
    clear H
    have H := H1
    clear H1
    replace H := Option.bind_eq_some_iff.mp H
    obtain ⟨⟨t323, t324⟩, A170, H⟩ := H
    replace H : (some (t323, t324)) = some (r1, r2) := H
    have A17 := Aside0.mk A170
    clear A170
    simp only [Option.some.injEq, Prod.mk.injEq] at H
    obtain ⟨rfl, rfl⟩ := H
    go_wp2_with (first | ((with_reducible refine gate_callee (f := 76) rfl ?_); refine goesL_ (some 22) rfl rfl Tryz.func76 (by kernel_rfl) rfl #[] rfl (by (try simp only [List.map_toArray, List.map_cons, List.map_nil]); first | done | rfl | (simp only [List.length_drop, List.length_take]; rfl)) ?_; (with_reducible refine (stencilref02_Nan.calls  t323 t324 _ ?side1 A17.out).mono ?_); (case side1 => first | exact HLD | exact Laid.below HLD HB.out); rintro e w18 ⟨rfl, hb⟩; refine ⟨_, rfl, ?_⟩; replace BK320 := zb BK320 hb; replace BK321 := zb BK321 hb; replace BK322 := zb BK322 hb; replace HB := zs HB hb; (try clear hb); (try clear hb2); (try clear hk); (try clear hi); have hnb19 := NB322_320.out; have hnc19 := NB320_322.out; have hnb20 := NB322_321.out; have hnc20 := NB321_322.out; have hcz21_0 : w18.cell? ⟨gb322, 0, none⟩ = some (.int .i64 0) := (blk_cell BK322.out 0).trans rfl; have hcz21_1 : w18.cell? ⟨gb322, 1, none⟩ = some (.int .i64 0) := (blk_cell BK322.out 1).trans rfl; have hfz21_0 := blk_frozen BK322.out 0; have hfz21_1 := blk_frozen BK322.out 1))
    refine bodyPost_ret (results_cell_row rfl _ _ gb322 24 #[.int .i64 t323, .int .i64 t324] (0, 0) _ rfl (by (with_reducible repeat (first | refine blk_drewN ?_ _ | refine blk_drew ?_ | refine blk_alloc ?_ _)); refine blk_put (cs := #[.int .i64 t323, .int .i64 0]) ?_ 1 _ rfl; (with_reducible repeat (first | refine blk_drewN ?_ _ | refine blk_drew ?_ | refine blk_alloc ?_ _)); refine blk_put (cs := #[.int .i64 0, .int .i64 0]) ?_ 0 _ rfl; (with_reducible repeat (first | refine blk_drewN ?_ _ | refine blk_drew ?_ | refine blk_alloc ?_ _)); exact BK322.out) Tryz.underlying24 rfl (by kernel_rfl)) rfl ?_
    exact ⟨by first | rfl | (simp [errW_none, errW_some] <;> rfl) | (simp [*, errW_none, errW_some] <;> rfl), by repeat (first | (with_reducible first | exact HB.out | apply below_alloc | apply pw_below_drewN | apply below_drew1 | refine below_set ?_ GE320.out | refine below_set ?_ GE321.out | refine below_set ?_ GE322.out) | exact HB.out)⟩
   ·replace c16 := Bool.eq_false_iff.mpr c16
    subst c16
    have H1 : ((stencilref02_sign.f kj2 a0_0 a0_1).bind fun t325 => ((stencilref02_sign.f kj2 a1_0 a1_1).bind fun t326 => (if a0_0 = 0 then (stencilref02_Mul.j1 kj2 (decide ((wrap64 (t325 * t326)) < 0)) (a1_0 != 0) a0_0 a0_1 a1_0 a1_1) else (stencilref02_Mul.j1 kj2 (decide ((wrap64 (t325 * t326)) < 0)) true a0_0 a0_1 a1_0 a1_1)))) = some (r1, r2) := by rw [if_neg (show ¬ (false = true) by decide)] at H; exact H
    clear H
    have H := H1
    clear H1
    replace H := Option.bind_eq_some_iff.mp H
    obtain ⟨t325, A220, H⟩ := H
    replace H : ((stencilref02_sign.f kj2 a1_0 a1_1).bind fun t326 => (if a0_0 = 0 then (stencilref02_Mul.j1 kj2 (decide ((wrap64 (t325 * t326)) < 0)) (a1_0 != 0) a0_0 a0_1 a1_0 a1_1) else (stencilref02_Mul.j1 kj2 (decide ((wrap64 (t325 * t326)) < 0)) true a0_0 a0_1 a1_0 a1_1))) = some (r1, r2) := H
    have A22 := Aside0.mk A220
    clear A220
    replace H := Option.bind_eq_some_iff.mp H
    obtain ⟨t326, A230, H⟩ := H
    replace H : (if a0_0 = 0 then (stencilref02_Mul.j1 kj2 (decide ((wrap64 (t325 * t326)) < 0)) (a1_0 != 0) a0_0 a0_1 a1_0 a1_1) else (stencilref02_Mul.j1 kj2 (decide ((wrap64 (t325 * t326)) < 0)) true a0_0 a0_1 a1_0 a1_1)) = some (r1, r2) := H
    have A23 := Aside0.mk A230
    clear A230
    have HC24 := Aside0.mk H
    clear H
    try go_wp2
    replace BK320 := Aside0.mk (blk_drew BK320.out)
    replace BK321 := Aside0.mk (blk_drew BK321.out)
    replace BK322 := Aside0.mk (blk_drew BK322.out)
    replace HB := Aside0.mk (below_drew1 HB.out)
    refine start_ (n := 7) (S := fun w' => w'.cell? ⟨gb320, 0, none⟩ = some (.int .i64 a0_0) ∧ w'.cell? ⟨gb320, 1, none⟩ = some (.int .i64 a0_1) ∧ w'.cell? ⟨gb321, 0, none⟩ = some (.int .i64 a1_0) ∧ w'.cell? ⟨gb321, 1, none⟩ = some (.int .i64 a1_1)) (ds := []) #[false, false, false, false, false, false, false] (by kernel_rfl) rfl rfl ⟨(blk_cell BK320.out 0).trans rfl, (blk_cell BK320.out 1).trans rfl, (blk_cell BK321.out 0).trans rfl, (blk_cell BK321.out 1).trans rfl⟩ (fun hHeld => ?_)
    generalize wc.drew = w25 at BK320 BK321 BK322 HB hHeld ⊢
    refine take_ (i := 0) (N := some 23) (v := ?_) (a' := ?_) #[true, false, false, false, false, false, false] rfl rfl (by kernel_rfl) (fun _ _ _ h => h) (Or.inl ⟨by rfl, ?_⟩) hHeld ?_ ?_
    rotate_left
    ·rintro w' ⟨s0, s1, s2, s3⟩
     go_simp
     with_reducible rfl
    rotate_left
    ·simp only [Act.put, List.setIfInBounds_toArray, List.set_cons_zero, List.set_cons_succ, i64_w, i32_w]
     rfl
    refine take_ (i := 2) (N := some 25) (v := ?_) (a' := ?_) #[true, false, true, false, false, false, false] rfl rfl (by kernel_rfl) (fun _ _ _ h => h) (Or.inl ⟨by rfl, ?_⟩) hHeld ?_ ?_
    rotate_left
    ·rintro w' ⟨s0, s1, s2, s3⟩
     go_simp
     with_reducible rfl
    rotate_left
    ·simp only [Act.put, List.setIfInBounds_toArray, List.set_cons_zero, List.set_cons_succ, i64_w, i32_w]
     rfl
    refine one_ (i := 1) (N := some 24) #[true, true, true, false, false, false, false] rfl rfl (by kernel_rfl) (by decide) (fun K hK => ?_)
    refine goes_ Tryz.func78 (by kernel_rfl) rfl #[.agg #[.int .i64 a0_0, .int .i64 a0_1]] (by rfl) rfl rfl (by (try simp only [List.map_toArray, List.map_cons, List.map_nil]); first | done | rfl | (simp only [List.length_drop, List.length_take]; rfl)) ?_
    with_reducible refine (stencilref02_sign.calls kj2 a0_0 a0_1 t325 _ ?side1 A22.out).mono ?_
    (case side1 => first | exact HLD | exact Laid.below HLD HB.out)
    rintro e w26 ⟨rfl, hb⟩
    refine ⟨_, rfl, ?_⟩
    replace BK320 := zb BK320 hb
    replace BK321 := zb BK321 hb
    replace BK322 := zb BK322 hb
    replace HB := zs HB hb
    (try clear hb)
    (try clear hb2)
    (try clear hk)
    (try clear hi)
    refine hK.out _ _ ⟨(blk_cell BK320.out 0).trans rfl, (blk_cell BK320.out 1).trans rfl, (blk_cell BK321.out 0).trans rfl, (blk_cell BK321.out 1).trans rfl⟩ (fun hHeld => ?_)
    clear hK K
    refine norm_ (a' := ?_) ?_ ?_
    rotate_left
    ·show Act.put _ (some 24) _ = _
     simp only [Act.put, List.setIfInBounds_toArray, List.set_cons_zero, List.set_cons_succ, i64_w, i32_w]
     rfl
    refine one_ (i := 3) (N := some 26) #[true, true, true, true, false, false, false] rfl rfl (by kernel_rfl) (by decide) (fun K hK => ?_)
    refine goes_ Tryz.func78 (by kernel_rfl) rfl #[.agg #[.int .i64 a1_0, .int .i64 a1_1]] (by rfl) rfl rfl (by (try simp only [List.map_toArray, List.map_cons, List.map_nil]); first | done | rfl | (simp only [List.length_drop, List.length_take]; rfl)) ?_
    with_reducible refine (stencilref02_sign.calls kj2 a1_0 a1_1 t326 _ ?side1 A23.out).mono ?_
    (case side1 => first | exact HLD | exact Laid.below HLD HB.out)
    rintro e w27 ⟨rfl, hb⟩
    refine ⟨_, rfl, ?_⟩
    replace BK320 := zb BK320 hb
    replace BK321 := zb BK321 hb
    replace BK322 := zb BK322 hb
    replace HB := zs HB hb
    (try clear hb)
    (try clear hb2)
    (try clear hk)
    (try clear hi)
    refine hK.out _ _ ⟨(blk_cell BK320.out 0).trans rfl, (blk_cell BK320.out 1).trans rfl, (blk_cell BK321.out 0).trans rfl, (blk_cell BK321.out 1).trans rfl⟩ (fun hHeld => ?_)
    clear hK K
    refine norm_ (a' := ?_) ?_ ?_
    rotate_left
    ·show Act.put _ (some 26) _ = _
     simp only [Act.put, List.setIfInBounds_toArray, List.set_cons_zero, List.set_cons_succ, i64_w, i32_w]
     rfl
    refine pure_ (i := 4) (N := some 27) (v := ?_) (a' := ?_) #[true, true, true, true, true, false, false] rfl rfl (by kernel_rfl) (fun _ _ _ h => h) (Or.inl ⟨by rfl, ?_⟩) ?_ ?_
    rotate_left
    ·intro w'
     go_simp
     with_reducible rfl
    rotate_left
    ·simp only [Act.put, List.setIfInBounds_toArray, List.set_cons_zero, List.set_cons_succ, i64_w, i32_w]
     rfl
    refine pure_ (i := 5) (N := some 28) (v := ?_) (a' := ?_) #[true, true, true, true, true, true, false] rfl rfl (by kernel_rfl) (fun _ _ _ h => h) (Or.inl ⟨by rfl, ?_⟩) ?_ ?_
    rotate_left
    ·intro w'
     go_simp
     with_reducible rfl
    rotate_left
    ·simp only [Act.put, List.setIfInBounds_toArray, List.set_cons_zero, List.set_cons_succ, i64_w, i32_w]
     rfl
    refine pure_ (i := 6) (N := some 5) (v := ?_) (a' := ?_) #[true, true, true, true, true, true, true] rfl rfl (by kernel_rfl) (fun _ _ _ h => h) (Or.inl ⟨by rfl, ?_⟩) ?_ ?_
    rotate_left
    ·intro w'
     go_simp
     with_reducible rfl
    rotate_left
    ·simp only [Act.put, List.setIfInBounds_toArray, List.set_cons_zero, List.set_cons_succ, i64_w, i32_w]
     rfl
    refine done_ (by kernel_rfl) ?_
    go_upto_region 4 with (fail)
    go_cut [36] (fun v36 wc => ∃ (kq : Nat) (x36_23 : Bool), v36 = .bool x36_23 ∧ Aside0 (stencilref02_Mul.j1 kq (decide ((wrap64 (t325 * t326)) < 0)) x36_23 a0_0 a0_1 a1_0 a1_1 = some (r1, r2)) ∧ Aside0 (kq ≤ kj2) ∧ Aside0 (wc.heap[gb320]? = some (.cells #[.int .i64 a0_0, .int .i64 a0_1] 24 (0, 0))) ∧ Aside0 (wc.heap[gb321]? = some (.cells #[.int .i64 a1_0, .int .i64 a1_1] 24 (0, 0))) ∧ Aside0 (wc.heap[gb322]? = some (.cells #[.int .i64 0, .int .i64 0] 24 (0, 0))) ∧ Aside0 (Below w.heap.size w wc))
    case first =>
     have H := HC24.out
     clear HC24
     by_cases c28 : a0_0 = 0
     ·rw [if_pos c28] at H
      have c28b0 : (a0_0 == 0) = true := beq_iff_eq.mpr c28
      have c28b1 : (a0_0 != 0) = false := bne_eq_false_iff_eq.mpr c28
      clear c28
      (first | rw [c28b0] | (simp only [i64_w, i32_w]; rw [c28b0]) | skip)
      have H' := Aside0.mk H
      clear H
      have hnb29 := NB320_321.out
      have hnc29 := NB321_320.out
      have hnb30 := NB320_322.out
      have hnc30 := NB322_320.out
      have hcz31_0 : w27.cell? ⟨gb320, 0, none⟩ = some (.int .i64 a0_0) := (blk_cell BK320.out 0).trans rfl
      have hcz31_1 : w27.cell? ⟨gb320, 1, none⟩ = some (.int .i64 a0_1) := (blk_cell BK320.out 1).trans rfl
      have hfz31_0 := blk_frozen BK320.out 0
      have hfz31_1 := blk_frozen BK320.out 1
      have hnb32 := NB321_322.out
      have hnc32 := NB322_321.out
      have hcz33_0 : w27.cell? ⟨gb321, 0, none⟩ = some (.int .i64 a1_0) := (blk_cell BK321.out 0).trans rfl
      have hcz33_1 : w27.cell? ⟨gb321, 1, none⟩ = some (.int .i64 a1_1) := (blk_cell BK321.out 1).trans rfl
      have hfz33_0 := blk_frozen BK321.out 0
      have hfz33_1 := blk_frozen BK321.out 1
      go_wp2
      go_meet
      case rel => exact ⟨_, ((a1_0 != 0)), (by first | rfl | (simp; done) | (simp [*]; done)), H', ⟨by have := HJ2.out; first | omega | exact Nat.le_refl _⟩, ⟨by (with_reducible repeat (first | refine blk_drewN ?_ _ | refine blk_drew ?_ | refine blk_alloc ?_ _)); exact BK320.out⟩, ⟨by (with_reducible repeat (first | refine blk_drewN ?_ _ | refine blk_drew ?_ | refine blk_alloc ?_ _)); exact BK321.out⟩, ⟨by (with_reducible repeat (first | refine blk_drewN ?_ _ | refine blk_drew ?_ | refine blk_alloc ?_ _)); exact BK322.out⟩, ⟨by repeat (first | (with_reducible first | exact HB.out | apply below_alloc | apply pw_below_drewN | apply below_drew1 | refine below_set ?_ GE320.out | refine below_set ?_ GE321.out | refine below_set ?_ GE322.out) | exact HB.out)⟩⟩
     ·rw [if_neg c28] at H
      have c28b0 : (a0_0 == 0) = false := beq_eq_false_iff_ne.mpr c28
      have c28b1 : (a0_0 != 0) = true := bne_iff_ne.mpr c28
      (first | rw [c28b0] | (simp only [i64_w, i32_w]; rw [c28b0]) | skip)
      have H' := Aside0.mk H
      clear H
      have hnb34 := NB320_321.out
      have hnc34 := NB321_320.out
      have hnb35 := NB320_322.out
      have hnc35 := NB322_320.out
      have hcz36_0 : w27.cell? ⟨gb320, 0, none⟩ = some (.int .i64 a0_0) := (blk_cell BK320.out 0).trans rfl
      have hcz36_1 : w27.cell? ⟨gb320, 1, none⟩ = some (.int .i64 a0_1) := (blk_cell BK320.out 1).trans rfl
      have hfz36_0 := blk_frozen BK320.out 0
      have hfz36_1 := blk_frozen BK320.out 1
      go_wp2
      go_meet
      case rel => exact ⟨_, (true), (by first | rfl | (simp; done) | (simp [*]; done)), H', ⟨by have := HJ2.out; first | omega | exact Nat.le_refl _⟩, ⟨by (with_reducible repeat (first | refine blk_drewN ?_ _ | refine blk_drew ?_ | refine blk_alloc ?_ _)); exact BK320.out⟩, ⟨by (with_reducible repeat (first | refine blk_drewN ?_ _ | refine blk_drew ?_ | refine blk_alloc ?_ _)); exact BK321.out⟩, ⟨by (with_reducible repeat (first | refine blk_drewN ?_ _ | refine blk_drew ?_ | refine blk_alloc ?_ _)); exact BK322.out⟩, ⟨by repeat (first | (with_reducible first | exact HB.out | apply below_alloc | apply pw_below_drewN | apply below_drew1 | refine below_set ?_ GE320.out | refine below_set ?_ GE321.out | refine below_set ?_ GE322.out) | exact HB.out)⟩⟩
    case rest =>
     clear HC24
     try clear c1; try clear c2; try clear p2; try clear c3; try clear p6; try clear c7; try clear c7b0; try clear c7b1; try clear c8; try clear c9; try clear c11; try clear c12; try clear c14; try clear c16; try clear c19; try clear c20; try clear c28; try clear c28b0; try clear c28b1; try clear c29; try clear c30; try clear c32; try clear c34; try clear c35; try clear hcz10_0; try clear hcz10_1; try clear hcz13_0; try clear hcz13_1; try clear hcz15_0; try clear hcz15_1; try clear hcz21_0; try clear hcz21_1; try clear hcz31_0; try clear hcz31_1; try clear hcz33_0; try clear hcz33_1; try clear hcz36_0; try clear hcz36_1; try clear hfz10_0; try clear hfz10_1; try clear hfz13_0; try clear hfz13_1; try clear hfz15_0; try clear hfz15_1; try clear hfz21_0; try clear hfz21_1; try clear hfz31_0; try clear hfz31_1; try clear hfz33_0; try clear hfz33_1; try clear hfz36_0; try clear hfz36_1; try clear p2
     obtain ⟨kq, x36_23, rfl, HA, HJ23, BK320, BK321, BK322, HB⟩ := hcut
     cases kq with
     | zero => exact absurd HA.out (by simp [stencilref02_Mul.j1])
     | succ kj23 =>
      have H := HA.out
      clear HA
      simp only [stencilref02_Mul.j1] at H
      by_cases c37 : x36_23 = true
      ·subst c37
       have H1 : ((stencilref02_sign.f kj23 a0_0 a0_1).bind fun t327 => (if t327 = 0 then (stencilref02_Mul.j2 kj23 (decide ((wrap64 (t325 * t326)) < 0)) true) else ((stencilref02_sign.f kj23 a1_0 a1_1).bind fun t328 => (stencilref02_Mul.j2 kj23 (decide ((wrap64 (t325 * t326)) < 0)) (t328 == 0))))) = some (r1, r2) := by rw [if_pos rfl] at H; exact H
       clear H
       have H := H1
       clear H1
       have HC38 := Aside0.mk H
       clear H
       go_upto_region 5 with (fail)
       go_cut [44] (fun v44 wc => ∃ (kq : Nat) (x44_37 : Bool), v44 = .bool x44_37 ∧ Aside0 (stencilref02_Mul.j2 kq (decide ((wrap64 (t325 * t326)) < 0)) x44_37 = some (r1, r2)) ∧ Aside0 (kq ≤ kj23) ∧ Aside0 (wc.heap[gb320]? = some (.cells #[.int .i64 a0_0, .int .i64 a0_1] 24 (0, 0))) ∧ Aside0 (wc.heap[gb321]? = some (.cells #[.int .i64 a1_0, .int .i64 a1_1] 24 (0, 0))) ∧ Aside0 (wc.heap[gb322]? = some (.cells #[.int .i64 0, .int .i64 0] 24 (0, 0))) ∧ Aside0 (Below w.heap.size w wc))
       case first =>
        have H := HC38.out
        clear HC38
        replace H := Option.bind_eq_some_iff.mp H
        obtain ⟨t327, A390, H⟩ := H
        replace H : (if t327 = 0 then (stencilref02_Mul.j2 kj23 (decide ((wrap64 (t325 * t326)) < 0)) true) else ((stencilref02_sign.f kj23 a1_0 a1_1).bind fun t328 => (stencilref02_Mul.j2 kj23 (decide ((wrap64 (t325 * t326)) < 0)) (t328 == 0)))) = some (r1, r2) := H
        have A39 := Aside0.mk A390
        clear A390
        by_cases c40 : t327 = 0
        ·rw [if_pos c40] at H
         have c40b0 : (t327 == 0) = true := beq_iff_eq.mpr c40
         have c40b1 : (t327 != 0) = false := bne_eq_false_iff_eq.mpr c40
         clear c40
         (first | rw [c40b0] | (simp only [i64_w, i32_w]; rw [c40b0]) | skip)
         have H' := Aside0.mk H
         clear H
         have hnb41 := NB320_321.out
         have hnc41 := NB321_320.out
         have hnb42 := NB320_322.out
         have hnc42 := NB322_320.out
         have hcz43_0 : wc.cell? ⟨gb320, 0, none⟩ = some (.int .i64 a0_0) := (blk_cell BK320.out 0).trans rfl
         have hcz43_1 : wc.cell? ⟨gb320, 1, none⟩ = some (.int .i64 a0_1) := (blk_cell BK320.out 1).trans rfl
         have hfz43_0 := blk_frozen BK320.out 0
         have hfz43_1 := blk_frozen BK320.out 1
         go_wp2_with (first | ((with_reducible refine gate_callee (f := 78) rfl ?_); refine goesL_ (some 38) rfl rfl Tryz.func78 (by kernel_rfl) rfl #[.agg #[.int .i64 a0_0, .int .i64 a0_1]] rfl (by (try simp only [List.map_toArray, List.map_cons, List.map_nil]); first | done | rfl | (simp only [List.length_drop, List.length_take]; rfl)) ?_; (with_reducible refine (stencilref02_sign.calls kj23 a0_0 a0_1 t327 _ ?side1 A39.out).mono ?_); (case side1 => first | exact HLD | exact Laid.below HLD HB.out); rintro e w44 ⟨rfl, hb⟩; refine ⟨_, rfl, ?_⟩; replace BK320 := zb BK320 hb; replace BK321 := zb BK321 hb; replace BK322 := zb BK322 hb; replace HB := zs HB hb; (try clear hb); (try clear hb2); (try clear hk); (try clear hi)))
         go_meet
         case rel => exact ⟨_, (true), (by first | rfl | (simp; done) | (simp [*]; done)), H', ⟨by have := HJ2.out; have := HJ23.out; first | omega | exact Nat.le_refl _⟩, ⟨by (with_reducible repeat (first | refine blk_drewN ?_ _ | refine blk_drew ?_ | refine blk_alloc ?_ _)); exact BK320.out⟩, ⟨by (with_reducible repeat (first | refine blk_drewN ?_ _ | refine blk_drew ?_ | refine blk_alloc ?_ _)); exact BK321.out⟩, ⟨by (with_reducible repeat (first | refine blk_drewN ?_ _ | refine blk_drew ?_ | refine blk_alloc ?_ _)); exact BK322.out⟩, ⟨by repeat (first | (with_reducible first | exact HB.out | apply below_alloc | apply pw_below_drewN | apply below_drew1 | refine below_set ?_ GE320.out | refine below_set ?_ GE321.out | refine below_set ?_ GE322.out) | exact HB.out)⟩⟩
        ·rw [if_neg c40] at H
         have c40b0 : (t327 == 0) = false := beq_eq_false_iff_ne.mpr c40
         have c40b1 : (t327 != 0) = true := bne_iff_ne.mpr c40
         (first | rw [c40b0] | (simp only [i64_w, i32_w]; rw [c40b0]) | skip)
         replace H := Option.bind_eq_some_iff.mp H
         obtain ⟨t328, A450, H⟩ := H
         replace H : (stencilref02_Mul.j2 kj23 (decide ((wrap64 (t325 * t326)) < 0)) (t328 == 0)) = some (r1, r2) := H
         have A45 := Aside0.mk A450
         clear A450
         have H' := Aside0.mk H
         clear H
         have hnb46 := NB320_321.out
         have hnc46 := NB321_320.out
         have hnb47 := NB320_322.out
         have hnc47 := NB322_320.out
         have hcz48_0 : wc.cell? ⟨gb320, 0, none⟩ = some (.int .i64 a0_0) := (blk_cell BK320.out 0).trans rfl
         have hcz48_1 : wc.cell? ⟨gb320, 1, none⟩ = some (.int .i64 a0_1) := (blk_cell BK320.out 1).trans rfl
         have hfz48_0 := blk_frozen BK320.out 0
         have hfz48_1 := blk_frozen BK320.out 1
         go_wp2_with (first | ((with_reducible refine gate_callee (f := 78) rfl ?_); refine goesL_ (some 38) rfl rfl Tryz.func78 (by kernel_rfl) rfl #[.agg #[.int .i64 a0_0, .int .i64 a0_1]] rfl (by (try simp only [List.map_toArray, List.map_cons, List.map_nil]); first | done | rfl | (simp only [List.length_drop, List.length_take]; rfl)) ?_; (with_reducible refine (stencilref02_sign.calls kj23 a0_0 a0_1 t327 _ ?side1 A39.out).mono ?_); (case side1 => first | exact HLD | exact Laid.below HLD HB.out); rintro e w49 ⟨rfl, hb⟩; refine ⟨_, rfl, ?_⟩; replace BK320 := zb BK320 hb; replace BK321 := zb BK321 hb; replace BK322 := zb BK322 hb; replace HB := zs HB hb; (try clear hb); (try clear hb2); (try clear hk); (try clear hi); have hnb50 := NB321_322.out; have hnc50 := NB322_321.out; have hcz51_0 : w49.cell? ⟨gb321, 0, none⟩ = some (.int .i64 a1_0) := (blk_cell BK321.out 0).trans rfl; have hcz51_1 : w49.cell? ⟨gb321, 1, none⟩ = some (.int .i64 a1_1) := (blk_cell BK321.out 1).trans rfl; have hfz51_0 := blk_frozen BK321.out 0; have hfz51_1 := blk_frozen BK321.out 1) | (go_at_call 78; (with_reducible refine (stencilref02_sign.calls kj23 a1_0 a1_1 t328 _ ?side1 A45.out).mono ?_); (case side1 => first | exact HLD | exact Laid.below HLD HB.out); rintro e w52 ⟨rfl, hb⟩; replace BK320 := zb BK320 hb; replace BK321 := zb BK321 hb; replace BK322 := zb BK322 hb; replace HB := zs HB hb; (try clear hb); (try clear hb2); (try clear hk); (try clear hi)))
         go_meet
         case rel => exact ⟨_, ((t328 == 0)), (by first | rfl | (simp; done) | (simp [*]; done)), H', ⟨by have := HJ2.out; have := HJ23.out; first | omega | exact Nat.le_refl _⟩, ⟨by (with_reducible repeat (first | refine blk_drewN ?_ _ | refine blk_drew ?_ | refine blk_alloc ?_ _)); exact BK320.out⟩, ⟨by (with_reducible repeat (first | refine blk_drewN ?_ _ | refine blk_drew ?_ | refine blk_alloc ?_ _)); exact BK321.out⟩, ⟨by (with_reducible repeat (first | refine blk_drewN ?_ _ | refine blk_drew ?_ | refine blk_alloc ?_ _)); exact BK322.out⟩, ⟨by repeat (first | (with_reducible first | exact HB.out | apply below_alloc | apply pw_below_drewN | apply below_drew1 | refine below_set ?_ GE320.out | refine below_set ?_ GE321.out | refine below_set ?_ GE322.out) | exact HB.out)⟩⟩
       case rest =>
        clear HC38
        try clear c1; try clear c2; try clear p2; try clear c3; try clear c4; try clear c5; try clear p6; try clear c7; try clear c7b0; try clear c7b1; try clear c8; try clear c9; try clear c11; try clear c12; try clear c14; try clear c16; try clear c19; try clear c20; try clear c28; try clear c28b0; try clear c28b1; try clear c29; try clear c30; try clear c32; try clear c34; try clear c35; try clear c37; try clear c40; try clear c40b0; try clear c40b1; try clear c41; try clear c42; try clear c46; try clear c47; try clear c50; try clear hcz10_0; try clear hcz10_1; try clear hcz13_0; try clear hcz13_1; try clear hcz15_0; try clear hcz15_1; try clear hcz21_0; try clear hcz21_1; try clear hcz31_0; try clear hcz31_1; try clear hcz33_0; try clear hcz33_1; try clear hcz36_0; try clear hcz36_1; try clear hcz43_0; try clear hcz43_1; try clear hcz48_0; try clear hcz48_1; try clear hcz51_0; try clear hcz51_1; try clear hfz10_0; try clear hfz10_1; try clear hfz13_0; try clear hfz13_1; try clear hfz15_0; try clear hfz15_1; try clear hfz21_0; try clear hfz21_1; try clear hfz31_0; try clear hfz31_1; try clear hfz33_0; try clear hfz33_1; try clear hfz36_0; try clear hfz36_1; try clear hfz43_0; try clear hfz43_1; try clear hfz48_0; try clear hfz48_1; try clear hfz51_0; try clear hfz51_1; try clear p2; try clear p6
        obtain ⟨kq, x44_37, rfl, HA, HJ37, BK320, BK321, BK322, HB⟩ := hcut
        cases kq with
        | zero => exact absurd HA.out (by simp [stencilref02_Mul.j2])
        | succ kj37 =>
         have H := HA.out
         clear HA
         simp only [stencilref02_Mul.j2] at H
         by_cases c53 : x44_37 = true
         ·subst c53
          have H1 : ((stencilref02_Nan.f).bind fun bt329 => (some (bt329.1, bt329.2))) = some (r1, r2) := by rw [if_pos rfl] at H; exact H
          clear H
          have H := H1
          clear H1
          replace H := Option.bind_eq_some_iff.mp H
          obtain ⟨⟨t329, t330⟩, A540, H⟩ := H
          replace H : (some (t329, t330)) = some (r1, r2) := H
          have A54 := Aside0.mk A540
          clear A540
          simp only [Option.some.injEq, Prod.mk.injEq] at H
          obtain ⟨rfl, rfl⟩ := H
          go_wp2_with (first | ((with_reducible refine gate_callee (f := 76) rfl ?_); refine goesL_ (some 45) rfl rfl Tryz.func76 (by kernel_rfl) rfl #[] rfl (by (try simp only [List.map_toArray, List.map_cons, List.map_nil]); first | done | rfl | (simp only [List.length_drop, List.length_take]; rfl)) ?_; (with_reducible refine (stencilref02_Nan.calls  t329 t330 _ ?side1 A54.out).mono ?_); (case side1 => first | exact HLD | exact Laid.below HLD HB.out); rintro e w55 ⟨rfl, hb⟩; refine ⟨_, rfl, ?_⟩; replace BK320 := zb BK320 hb; replace BK321 := zb BK321 hb; replace BK322 := zb BK322 hb; replace HB := zs HB hb; (try clear hb); (try clear hb2); (try clear hk); (try clear hi); have hnb56 := NB322_320.out; have hnc56 := NB320_322.out; have hnb57 := NB322_321.out; have hnc57 := NB321_322.out; have hcz58_0 : w55.cell? ⟨gb322, 0, none⟩ = some (.int .i64 0) := (blk_cell BK322.out 0).trans rfl; have hcz58_1 : w55.cell? ⟨gb322, 1, none⟩ = some (.int .i64 0) := (blk_cell BK322.out 1).trans rfl; have hfz58_0 := blk_frozen BK322.out 0; have hfz58_1 := blk_frozen BK322.out 1))
          refine bodyPost_ret (results_cell_row rfl _ _ gb322 24 #[.int .i64 t329, .int .i64 t330] (0, 0) _ rfl (by (with_reducible repeat (first | refine blk_drewN ?_ _ | refine blk_drew ?_ | refine blk_alloc ?_ _)); refine blk_put (cs := #[.int .i64 t329, .int .i64 0]) ?_ 1 _ rfl; (with_reducible repeat (first | refine blk_drewN ?_ _ | refine blk_drew ?_ | refine blk_alloc ?_ _)); refine blk_put (cs := #[.int .i64 0, .int .i64 0]) ?_ 0 _ rfl; (with_reducible repeat (first | refine blk_drewN ?_ _ | refine blk_drew ?_ | refine blk_alloc ?_ _)); exact BK322.out) Tryz.underlying24 rfl (by kernel_rfl)) rfl ?_
          exact ⟨by first | rfl | (simp [errW_none, errW_some] <;> rfl) | (simp [*, errW_none, errW_some] <;> rfl), by repeat (first | (with_reducible first | exact HB.out | apply below_alloc | apply pw_below_drewN | apply below_drew1 | refine below_set ?_ GE320.out | refine below_set ?_ GE321.out | refine below_set ?_ GE322.out) | exact HB.out)⟩
         ·replace c53 := Bool.eq_false_iff.mpr c53
          subst c53
          have H1 : ((stencilref02_Inf.f (decide ((wrap64 (t325 * t326)) < 0))).bind fun bt331 => (some (bt331.1, bt331.2))) = some (r1, r2) := by rw [if_neg (show ¬ (false = true) by decide)] at H; exact H
          clear H
          have H := H1
          clear H1
          replace H := Option.bind_eq_some_iff.mp H
          obtain ⟨⟨t331, t332⟩, A590, H⟩ := H
          replace H : (some (t331, t332)) = some (r1, r2) := H
          have A59 := Aside0.mk A590
          clear A590
          simp only [Option.some.injEq, Prod.mk.injEq] at H
          obtain ⟨rfl, rfl⟩ := H
          go_wp2_with (first | ((with_reducible refine gate_callee (f := 79) rfl ?_); refine goesL_ (some 47) rfl rfl Tryz.func79 (by kernel_rfl) rfl #[.bool (decide ((wrap64 (t325 * t326)) < 0))] rfl (by (try simp only [List.map_toArray, List.map_cons, List.map_nil]); first | done | rfl | (simp only [List.length_drop, List.length_take]; rfl)) ?_; (with_reducible refine (stencilref02_Inf.calls (decide ((wrap64 (t325 * t326)) < 0)) t331 t332 _ ?side1 A59.out).mono ?_); (case side1 => first | exact HLD | exact Laid.below HLD HB.out); rintro e w60 ⟨rfl, hb⟩; refine ⟨_, rfl, ?_⟩; replace BK320 := zb BK320 hb; replace BK321 := zb BK321 hb; replace BK322 := zb BK322 hb; replace HB := zs HB hb; (try clear hb); (try clear hb2); (try clear hk); (try clear hi); have hnb61 := NB322_320.out; have hnc61 := NB320_322.out; have hnb62 := NB322_321.out; have hnc62 := NB321_322.out; have hcz63_0 : w60.cell? ⟨gb322, 0, none⟩ = some (.int .i64 0) := (blk_cell BK322.out 0).trans rfl; have hcz63_1 : w60.cell? ⟨gb322, 1, none⟩ = some (.int .i64 0) := (blk_cell BK322.out 1).trans rfl; have hfz63_0 := blk_frozen BK322.out 0; have hfz63_1 := blk_frozen BK322.out 1))
          refine bodyPost_ret (results_cell_row rfl _ _ gb322 24 #[.int .i64 t331, .int .i64 t332] (0, 0) _ rfl (by (with_reducible repeat (first | refine blk_drewN ?_ _ | refine blk_drew ?_ | refine blk_alloc ?_ _)); refine blk_put (cs := #[.int .i64 t331, .int .i64 0]) ?_ 1 _ rfl; (with_reducible repeat (first | refine blk_drewN ?_ _ | refine blk_drew ?_ | refine blk_alloc ?_ _)); refine blk_put (cs := #[.int .i64 0, .int .i64 0]) ?_ 0 _ rfl; (with_reducible repeat (first | refine blk_drewN ?_ _ | refine blk_drew ?_ | refine blk_alloc ?_ _)); exact BK322.out) Tryz.underlying24 rfl (by kernel_rfl)) rfl ?_
          exact ⟨by first | rfl | (simp [errW_none, errW_some] <;> rfl) | (simp [*, errW_none, errW_some] <;> rfl), by repeat (first | (with_reducible first | exact HB.out | apply below_alloc | apply pw_below_drewN | apply below_drew1 | refine below_set ?_ GE320.out | refine below_set ?_ GE321.out | refine below_set ?_ GE322.out) | exact HB.out)⟩
      ·replace c37 := Bool.eq_false_iff.mpr c37
       subst c37
       have H1 : ((stencilref02_size.f a0_0 a0_1).bind fun t333 => ((stencilref02_digits.f kj23 t333).bind fun t334 => ((stencilref02_size.f a1_0 a1_1).bind fun t337 => ((stencilref02_digits.f kj23 t337).bind fun t338 => (if 0 ≤ (wrap64 ((wrap64 ((t334.length : Int) + (t338.length : Int))) + 1)) then (if (wrap64 ((wrap64 ((t334.length : Int) + (t338.length : Int))) + 1) : Int).toNat ≤ 35184372088832 then (stencilref02_Mul.l0 kj23 (decide ((wrap64 (t325 * t326)) < 0)) t334 t338 (List.replicate (wrap64 ((wrap64 ((t334.length : Int) + (t338.length : Int))) + 1) : Int).toNat 0) 0) else (none)) else (none)))))) = some (r1, r2) := by rw [if_neg (show ¬ (false = true) by decide)] at H; exact H
       clear H
       have H := H1
       clear H1
       replace H := Option.bind_eq_some_iff.mp H
       obtain ⟨t333, A640, H⟩ := H
       replace H : ((stencilref02_digits.f kj23 t333).bind fun t334 => ((stencilref02_size.f a1_0 a1_1).bind fun t337 => ((stencilref02_digits.f kj23 t337).bind fun t338 => (if 0 ≤ (wrap64 ((wrap64 ((t334.length : Int) + (t338.length : Int))) + 1)) then (if (wrap64 ((wrap64 ((t334.length : Int) + (t338.length : Int))) + 1) : Int).toNat ≤ 35184372088832 then (stencilref02_Mul.l0 kj23 (decide ((wrap64 (t325 * t326)) < 0)) t334 t338 (List.replicate (wrap64 ((wrap64 ((t334.length : Int) + (t338.length : Int))) + 1) : Int).toNat 0) 0) else (none)) else (none))))) = some (r1, r2) := H
       have A64 := Aside0.mk A640
       clear A640
       replace H := Option.bind_eq_some_iff.mp H
       obtain ⟨t334, A650, H⟩ := H
       replace H : ((stencilref02_size.f a1_0 a1_1).bind fun t337 => ((stencilref02_digits.f kj23 t337).bind fun t338 => (if 0 ≤ (wrap64 ((wrap64 ((t334.length : Int) + (t338.length : Int))) + 1)) then (if (wrap64 ((wrap64 ((t334.length : Int) + (t338.length : Int))) + 1) : Int).toNat ≤ 35184372088832 then (stencilref02_Mul.l0 kj23 (decide ((wrap64 (t325 * t326)) < 0)) t334 t338 (List.replicate (wrap64 ((wrap64 ((t334.length : Int) + (t338.length : Int))) + 1) : Int).toNat 0) 0) else (none)) else (none)))) = some (r1, r2) := H
       have A65 := Aside0.mk A650
       clear A650
       replace H := Option.bind_eq_some_iff.mp H
       obtain ⟨t337, A660, H⟩ := H
       replace H : ((stencilref02_digits.f kj23 t337).bind fun t338 => (if 0 ≤ (wrap64 ((wrap64 ((t334.length : Int) + (t338.length : Int))) + 1)) then (if (wrap64 ((wrap64 ((t334.length : Int) + (t338.length : Int))) + 1) : Int).toNat ≤ 35184372088832 then (stencilref02_Mul.l0 kj23 (decide ((wrap64 (t325 * t326)) < 0)) t334 t338 (List.replicate (wrap64 ((wrap64 ((t334.length : Int) + (t338.length : Int))) + 1) : Int).toNat 0) 0) else (none)) else (none))) = some (r1, r2) := H
       have A66 := Aside0.mk A660
       clear A660
       replace H := Option.bind_eq_some_iff.mp H
       obtain ⟨t338, A670, H⟩ := H
       replace H : (if 0 ≤ (wrap64 ((wrap64 ((t334.length : Int) + (t338.length : Int))) + 1)) then (if (wrap64 ((wrap64 ((t334.length : Int) + (t338.length : Int))) + 1) : Int).toNat ≤ 35184372088832 then (stencilref02_Mul.l0 kj23 (decide ((wrap64 (t325 * t326)) < 0)) t334 t338 (List.replicate (wrap64 ((wrap64 ((t334.length : Int) + (t338.length : Int))) + 1) : Int).toNat 0) 0) else (none)) else (none)) = some (r1, r2) := H
       have A67 := Aside0.mk A670
       clear A670
       obtain ⟨ji68, hji68⟩ : ∃ j_ : Int, (wrap64 ((wrap64 ((t334.length : Int) + (t338.length : Int))) + 1)) = j_ := ⟨_, rfl⟩
       replace H : (if 0 ≤ (ji68) then (if (ji68 : Int).toNat ≤ 35184372088832 then (stencilref02_Mul.l0 kj23 (decide ((wrap64 (t325 * t326)) < 0)) t334 t338 (List.replicate (ji68 : Int).toNat 0) 0) else (none)) else (none)) = some (r1, r2) := by first | (rw [hji68] at H; exact H) | (simp only [hji68] at H ⊢; exact H)
       (try rw [hji68] at A64)
       (try rw [hji68] at A65)
       (try rw [hji68] at A66)
       (try rw [hji68] at A67)
       have hji68w : (IntKind.i64.wrap ((wrap64 ((t334.length : Int) + (t338.length : Int))) + 1)) = ji68 := (i64_w _).trans hji68
       by_cases c69 : 0 ≤ (ji68)
       ·rw [if_pos c69] at H
        have c69b0 := eq_true c69
        have c69b1 : decide (0 ≤ (ji68)) = true := decide_eq_true c69
        clear c69
        by_cases c70 : (ji68 : Int).toNat ≤ 35184372088832
        ·rw [if_pos c70] at H
         have c70b0 := eq_true c70
         have c70b1 : decide ((ji68 : Int).toNat ≤ 35184372088832) = true := decide_eq_true c70
         clear c70
         obtain ⟨y341, hy341⟩ : ∃ y_ : List Int, y_ = (List.replicate (ji68 : Int).toNat 0) := ⟨_, rfl⟩
         replace H : (stencilref02_Mul.l0 kj23 (decide ((wrap64 (t325 * t326)) < 0)) t334 t338 y341 0) = some (r1, r2) := by first | (rw [hy341]; with_reducible exact H) | (have H2_ := (Option.bind_some _ _).symm.trans H; rw [hy341]; with_reducible exact H2_) | (have H2_ := (Option.bind_some _ _).symm.trans H; with_reducible exact H2_) | with_reducible exact H | (rw [hy341]; exact H) | exact H
         have Ny341 := Aside0.mk hy341
         clear hy341
         have H' := Aside0.mk H
         clear H
         try go_wp2
         replace BK320 := Aside0.mk (blk_drew BK320.out)
         replace BK321 := Aside0.mk (blk_drew BK321.out)
         replace BK322 := Aside0.mk (blk_drew BK322.out)
         replace HB := Aside0.mk (below_drew1 HB.out)
         refine start_ (n := 8) (S := fun w' => w'.cell? ⟨gb320, 0, none⟩ = some (.int .i64 a0_0) ∧ w'.cell? ⟨gb320, 1, none⟩ = some (.int .i64 a0_1) ∧ w'.cell? ⟨gb321, 0, none⟩ = some (.int .i64 a1_0) ∧ w'.cell? ⟨gb321, 1, none⟩ = some (.int .i64 a1_1)) (ds := []) #[false, false, false, false, false, false, false, false] (by kernel_rfl) rfl rfl ⟨(blk_cell BK320.out 0).trans rfl, (blk_cell BK320.out 1).trans rfl, (blk_cell BK321.out 0).trans rfl, (blk_cell BK321.out 1).trans rfl⟩ (fun hHeld => ?_); refine with_tabW stencilref02_Mul.tab8 stencilref02_Mul.bits8 (fun HT_ HW_ => ?_)
         generalize wc.drew = w71 at BK320 BK321 BK322 HB hHeld ⊢
         refine take_ (i := 0) (N := some 48) (v := ?_) (a' := ?_) #[true, false, false, false, false, false, false, false] rfl rfl (take_ofW HT_.out HW_.out (by kernel_rfl)) (fun _ _ _ h => h) (Or.inl ⟨by rfl, ?_⟩) hHeld ?_ ?_
         rotate_left
         ·rintro w' ⟨s0, s1, s2, s3⟩
          go_simp
          with_reducible rfl
         rotate_left
         ·simp only [Act.put, List.setIfInBounds_toArray, List.set_cons_zero, List.set_cons_succ, i64_w, i32_w]
          rfl
         refine take_ (i := 3) (N := some 51) (v := ?_) (a' := ?_) #[true, false, false, true, false, false, false, false] rfl rfl (take_ofW HT_.out HW_.out (by kernel_rfl)) (fun _ _ _ h => h) (Or.inl ⟨by rfl, ?_⟩) hHeld ?_ ?_
         rotate_left
         ·rintro w' ⟨s0, s1, s2, s3⟩
          go_simp
          with_reducible rfl
         rotate_left
         ·simp only [Act.put, List.setIfInBounds_toArray, List.set_cons_zero, List.set_cons_succ, i64_w, i32_w]
          rfl
         refine one_ (i := 1) (N := some 49) #[true, true, false, true, false, false, false, false] rfl rfl (one_of HT_.out (by kernel_rfl)) (by decide) (fun K hK => ?_)
         refine goes_ Tryz.func81 (by kernel_rfl) rfl #[.agg #[.int .i64 a0_0, .int .i64 a0_1]] (by rfl) rfl rfl (by (try simp only [List.map_toArray, List.map_cons, List.map_nil]); first | done | rfl | (simp only [List.length_drop, List.length_take]; rfl)) ?_
         with_reducible refine (stencilref02_size.calls a0_0 a0_1 t333 _ ?side1 A64.out).mono ?_
         (case side1 => first | exact HLD | exact Laid.below HLD HB.out)
         rintro e w72 ⟨rfl, hb⟩
         refine ⟨_, rfl, ?_⟩
         replace BK320 := zb BK320 hb
         replace BK321 := zb BK321 hb
         replace BK322 := zb BK322 hb
         replace HB := zs HB hb
         (try clear hb)
         (try clear hb2)
         (try clear hk)
         (try clear hi)
         refine hK.out _ _ ⟨(blk_cell BK320.out 0).trans rfl, (blk_cell BK320.out 1).trans rfl, (blk_cell BK321.out 0).trans rfl, (blk_cell BK321.out 1).trans rfl⟩ (fun hHeld => ?_)
         clear hK K
         refine norm_ (a' := ?_) ?_ ?_
         rotate_left
         ·show Act.put _ (some 49) _ = _
          simp only [Act.put, List.setIfInBounds_toArray, List.set_cons_zero, List.set_cons_succ, i64_w, i32_w]
          rfl
         refine one_ (i := 2) (N := some 50) #[true, true, true, true, false, false, false, false] rfl rfl (one_of HT_.out (by kernel_rfl)) (by decide) (fun K hK => ?_)
         refine goes_ Tryz.func80 (by kernel_rfl) rfl #[.int .u64 t333] (by rfl) rfl rfl (by (try simp only [List.map_toArray, List.map_cons, List.map_nil]); first | done | rfl | (simp only [List.length_drop, List.length_take]; rfl)) ?_
         with_reducible refine (stencilref02_digits.calls kj23 t333 t334 _ ?side1 A65.out).mono ?_
         (case side1 => first | exact HLD | exact Laid.below HLD HB.out)
         rintro e w73 ⟨v335, rfl, ho0, hb⟩
         refine ⟨_, rfl, ?_⟩
         have HO336 := Aside0.mk (Kd.R_lower ho0 (below_size HB.out))
         replace BK320 := zb BK320 hb
         replace BK321 := zb BK321 hb
         replace BK322 := zb BK322 hb
         replace HB := zs HB hb
         (try clear hb)
         (try clear hb2)
         (try clear hk)
         (try clear hi)
         (try clear ho0)
         refine hK.out _ _ ⟨(blk_cell BK320.out 0).trans rfl, (blk_cell BK320.out 1).trans rfl, (blk_cell BK321.out 0).trans rfl, (blk_cell BK321.out 1).trans rfl⟩ (fun hHeld => ?_)
         clear hK K
         refine norm_ (a' := ?_) ?_ ?_
         rotate_left
         ·show Act.put _ (some 50) _ = _
          simp only [Act.put, List.setIfInBounds_toArray, List.set_cons_zero, List.set_cons_succ, i64_w, i32_w]
          rfl
         refine one_ (i := 4) (N := some 52) #[true, true, true, true, true, false, false, false] rfl rfl (one_of HT_.out (by kernel_rfl)) (by decide) (fun K hK => ?_)
         refine goes_ Tryz.func81 (by kernel_rfl) rfl #[.agg #[.int .i64 a1_0, .int .i64 a1_1]] (by rfl) rfl rfl (by (try simp only [List.map_toArray, List.map_cons, List.map_nil]); first | done | rfl | (simp only [List.length_drop, List.length_take]; rfl)) ?_
         with_reducible refine (stencilref02_size.calls a1_0 a1_1 t337 _ ?side1 A66.out).mono ?_
         (case side1 => first | exact HLD | exact Laid.below HLD HB.out)
         rintro e w74 ⟨rfl, hb⟩
         refine ⟨_, rfl, ?_⟩
         replace HO336 := Aside0.mk (Kd.R_below (by (with_reducible repeat (first | apply Kd.R_alloc | apply Kd.R_drewN | apply Kd.R_drew)); exact HO336.out) hb)
         replace BK320 := zb BK320 hb
         replace BK321 := zb BK321 hb
         replace BK322 := zb BK322 hb
         replace HB := zs HB hb
         (try clear hb)
         (try clear hb2)
         (try clear hk)
         (try clear hi)
         refine hK.out _ _ ⟨(blk_cell BK320.out 0).trans rfl, (blk_cell BK320.out 1).trans rfl, (blk_cell BK321.out 0).trans rfl, (blk_cell BK321.out 1).trans rfl⟩ (fun hHeld => ?_)
         clear hK K
         refine norm_ (a' := ?_) ?_ ?_
         rotate_left
         ·show Act.put _ (some 52) _ = _
          simp only [Act.put, List.setIfInBounds_toArray, List.set_cons_zero, List.set_cons_succ, i64_w, i32_w]
          rfl
         refine one_ (i := 5) (N := some 53) #[true, true, true, true, true, true, false, false] rfl rfl (one_of HT_.out (by kernel_rfl)) (by decide) (fun K hK => ?_)
         refine goes_ Tryz.func80 (by kernel_rfl) rfl #[.int .u64 t337] (by rfl) rfl rfl (by (try simp only [List.map_toArray, List.map_cons, List.map_nil]); first | done | rfl | (simp only [List.length_drop, List.length_take]; rfl)) ?_
         with_reducible refine (stencilref02_digits.calls kj23 t337 t338 _ ?side1 A67.out).mono ?_
         (case side1 => first | exact HLD | exact Laid.below HLD HB.out)
         rintro e w75 ⟨v339, rfl, ho0, hb⟩
         refine ⟨_, rfl, ?_⟩
         have HO340 := Aside0.mk (Kd.R_lower (Kd.R_new' ho0 (Kd.R_lt (by (with_reducible repeat (first | apply Kd.R_alloc | apply Kd.R_drewN | apply Kd.R_drew)); exact HO336.out))) (below_size HB.out))
         replace HO336 := Aside0.mk (Kd.R_elder' (by (with_reducible repeat (first | apply Kd.R_alloc | apply Kd.R_drewN | apply Kd.R_drew)); exact HO336.out) (Kd.R_base ho0) hb)
         replace BK320 := zb BK320 hb
         replace BK321 := zb BK321 hb
         replace BK322 := zb BK322 hb
         replace HB := zs HB hb
         (try clear hb)
         (try clear hb2)
         (try clear hk)
         (try clear hi)
         (try clear ho0)
         refine hK.out _ _ ⟨(blk_cell BK320.out 0).trans rfl, (blk_cell BK320.out 1).trans rfl, (blk_cell BK321.out 0).trans rfl, (blk_cell BK321.out 1).trans rfl⟩ (fun hHeld => ?_)
         clear hK K
         refine norm_ (a' := ?_) ?_ ?_
         rotate_left
         ·show Act.put _ (some 53) _ = _
          simp only [Act.put, List.setIfInBounds_toArray, List.set_cons_zero, List.set_cons_succ, i64_w, i32_w]
          rfl
         refine pure_ (i := 6) (N := some 6) (v := ?_) (a' := ?_) #[true, true, true, true, true, true, true, false] rfl rfl (any_of HT_.out (by kernel_rfl)) (fun _ _ _ h => h) (Or.inl ⟨by rfl, ?_⟩) ?_ ?_
         rotate_left
         ·intro w'
          go_simp
          with_reducible rfl
         rotate_left
         ·simp only [Act.put, List.setIfInBounds_toArray, List.set_cons_zero, List.set_cons_succ, i64_w, i32_w]
          rfl
         refine pure_ (i := 7) (N := some 7) (v := ?_) (a' := ?_) #[true, true, true, true, true, true, true, true] rfl rfl (any_of HT_.out (by kernel_rfl)) (fun _ _ _ h => h) (Or.inl ⟨by rfl, ?_⟩) ?_ ?_
         rotate_left
         ·intro w'
          go_simp
          with_reducible rfl
         rotate_left
         ·simp only [Act.put, List.setIfInBounds_toArray, List.set_cons_zero, List.set_cons_succ, i64_w, i32_w]
          rfl
         refine done_ (done_of HT_.out (by kernel_rfl)) ?_
         obtain ⟨Ao76, co76, eo76⟩ := Kd.R_slice HO336.out
         subst eo76
         obtain ⟨Ao77, co77, eo77⟩ := Kd.R_slice HO340.out
         subst eo77
         try go_wp2_with (first | ((with_reducible refine gate_dst (N := 60) rfl ?_); refine Kd.R_make (Kd.int .i64) _ 3 rfl (N := 60) rfl 87 _ _ rfl ji68 rfl rfl Tryz.underlying87 (.int .i64 0) 8 info3 rfl (by decide) (by omega) 0 (ok := fun _ => True) (okp := fun _ => True) rfl (fun _ hk => hk) trivial (of_decide_eq_true (by first | (with_reducible assumption) | assumption)) (Nat.le_trans (Nat.mul_le_mul_right _ (of_decide_eq_true (by first | (with_reducible assumption) | assumption) : ji68.toNat ≤ 35184372088832)) (by omega)) (Below.refl _ _) (Nat.le_refl _) ?_; intro v342 w78 ho79 hb hg_ hnew_; clear hg_ hnew_; (first | rw [← Ny341.out] at ho79 | (simp only [Int.reduceToNat] at ho79; rw [← Ny341.out] at ho79)); have n0_ := Aside0.mk (Kd.R_elder' (by (with_reducible repeat (first | apply Kd.R_alloc | apply Kd.R_drewN | apply Kd.R_drew)); exact HO336.out) (Kd.R_base ho79) hb); have n1_ := Aside0.mk (Kd.R_elder' (by (with_reducible repeat (first | apply Kd.R_alloc | apply Kd.R_drewN | apply Kd.R_drew)); exact HO340.out) (Kd.R_base ho79) hb); have n2_ := Aside0.mk (Kd.R_lower (Kd.R_new' (Kd.R_new' ho79 (Kd.R_lt (by (with_reducible repeat (first | apply Kd.R_alloc | apply Kd.R_drewN | apply Kd.R_drew)); exact HO336.out))) (Kd.R_lt (by (with_reducible repeat (first | apply Kd.R_alloc | apply Kd.R_drewN | apply Kd.R_drew)); exact HO340.out))) (below_size HB.out)); have n3_ := zb BK320 hb; have n4_ := zb BK321 hb; have n5_ := zb BK322 hb; have n6_ := zs HB hb; clear HO336; clear HO340; clear BK320; clear BK321; clear BK322; clear HB; have HO336 := n0_; have HO340 := n1_; have HO343 := n2_; have BK320 := n3_; have BK321 := n4_; have BK322 := n5_; have HB := n6_; clear n0_ n1_ n2_ n3_ n4_ n5_ n6_; clear hb ho79))
         go_loopg [9] kj23 (fun kq v9 w' => ∃ (x8_3 : List Int) (x9_3 : Int), v9 = .int .i64 x9_3 ∧ Aside0 (stencilref02_Mul.l0 kq (decide ((wrap64 (t325 * t326)) < 0)) t334 t338 x8_3 x9_3 = some (r1, r2)) ∧ Aside0 (kq ≤ kj23) ∧ Aside0 (Kd.R (Kd.int .i64) 3 w' w.heap.size (fun k_ => some k_ ≠ ((.slice Ao77 t338.length co77) : Value).ownBlock ∧ some k_ ≠ (v342 : Value).ownBlock) (.slice Ao76 t334.length co76) t334) ∧ Aside0 (Kd.R (Kd.int .i64) 3 w' w.heap.size (fun k_ => some k_ ≠ ((.slice Ao76 t334.length co76) : Value).ownBlock ∧ some k_ ≠ (v342 : Value).ownBlock) (.slice Ao77 t338.length co77) t338) ∧ Aside0 (Kd.R (Kd.int .i64) 3 w' w.heap.size (fun k_ => some k_ ≠ ((.slice Ao76 t334.length co76) : Value).ownBlock ∧ some k_ ≠ ((.slice Ao77 t338.length co77) : Value).ownBlock) v342 x8_3) ∧ Aside0 (w'.heap[gb320]? = some (.cells #[.int .i64 a0_0, .int .i64 a0_1] 24 (0, 0))) ∧ Aside0 (w'.heap[gb321]? = some (.cells #[.int .i64 a1_0, .int .i64 a1_1] 24 (0, 0))) ∧ Aside0 (w'.heap[gb322]? = some (.cells #[.int .i64 0, .int .i64 0] 24 (0, 0))) ∧ Aside0 (Below w.heap.size w w'))
         case atStart => exact ⟨(y341), (0), (by first | rfl | (simp; done) | (simp [*]; done)), H', ⟨Nat.le_refl _⟩, ⟨by (with_reducible repeat (first | apply Kd.R_alloc | apply Kd.R_drewN | apply Kd.R_drew)); exact Kd.R_mono HO336.out (fun _ hk => ⟨hk.1.2, hk.2⟩)⟩, ⟨by (with_reducible repeat (first | apply Kd.R_alloc | apply Kd.R_drewN | apply Kd.R_drew)); exact Kd.R_mono HO340.out (fun _ hk => ⟨hk.1.2, hk.2⟩)⟩, ⟨by (with_reducible repeat (first | apply Kd.R_alloc | apply Kd.R_drewN | apply Kd.R_drew)); exact Kd.R_mono HO343.out (fun _ hk => ⟨hk.1.2, hk.2⟩)⟩, ⟨by (with_reducible repeat (first | refine blk_drewN ?_ _ | refine blk_drew ?_ | refine blk_alloc ?_ _)); exact BK320.out⟩, ⟨by (with_reducible repeat (first | refine blk_drewN ?_ _ | refine blk_drew ?_ | refine blk_alloc ?_ _)); exact BK321.out⟩, ⟨by (with_reducible repeat (first | refine blk_drewN ?_ _ | refine blk_drew ?_ | refine blk_alloc ?_ _)); exact BK322.out⟩, ⟨by repeat (first | (with_reducible first | exact HB.out | apply below_alloc | apply pw_below_drewN | apply below_drew1 | refine below_set ?_ GE320.out | refine below_set ?_ GE321.out | refine below_set ?_ GE322.out) | exact HB.out)⟩⟩
         case round =>
          clear H'
          try clear c1; try clear c2; try clear p2; try clear c3; try clear c4; try clear c5; try clear c6; try clear p6; try clear c7; try clear c7b0; try clear c7b1; try clear c8; try clear c9; try clear c11; try clear c12; try clear c14; try clear c16; try clear c19; try clear c20; try clear c28; try clear c28b0; try clear c28b1; try clear c29; try clear c30; try clear c32; try clear c34; try clear c35; try clear c37; try clear c40; try clear c40b0; try clear c40b1; try clear c41; try clear c42; try clear c46; try clear c47; try clear c50; try clear c53; try clear c56; try clear c57; try clear c61; try clear c62; try clear p64; try clear c69; try clear c69b0; try clear c69b1; try clear c70; try clear c70b0; try clear c70b1; try clear c76; try clear c78; try clear c79; try clear hcz10_0; try clear hcz10_1; try clear hcz13_0; try clear hcz13_1; try clear hcz15_0; try clear hcz15_1; try clear hcz21_0; try clear hcz21_1; try clear hcz31_0; try clear hcz31_1; try clear hcz33_0; try clear hcz33_1; try clear hcz36_0; try clear hcz36_1; try clear hcz43_0; try clear hcz43_1; try clear hcz48_0; try clear hcz48_1; try clear hcz51_0; try clear hcz51_1; try clear hcz58_0; try clear hcz58_1; try clear hcz63_0; try clear hcz63_1; try clear hfz10_0; try clear hfz10_1; try clear hfz13_0; try clear hfz13_1; try clear hfz15_0; try clear hfz15_1; try clear hfz21_0; try clear hfz21_1; try clear hfz31_0; try clear hfz31_1; try clear hfz33_0; try clear hfz33_1; try clear hfz36_0; try clear hfz36_1; try clear hfz43_0; try clear hfz43_1; try clear hfz48_0; try clear hfz48_1; try clear hfz51_0; try clear hfz51_1; try clear hfz58_0; try clear hfz58_1; try clear hfz63_0; try clear hfz63_1; try clear p2; try clear p6
          obtain ⟨x8_3, x9_3, rfl, HA, HK3, HO_6, HO_7, HO_8, BK320, BK321, BK322, HB⟩ := hrel
          cases gk with
          | zero => exact absurd HA.out (by simp [stencilref02_Mul.l0])
          | succ k3 =>
           have H := HA.out
           clear HA
           simp only [stencilref02_Mul.l0] at H
           by_cases c80 : x9_3 < (t334.length : Int)
           ·rw [if_pos c80] at H
            have c80b0 : decide (x9_3 < (t334.length : Int)) = true := decide_eq_true c80
            clear c80
            have H' := Aside0.mk H
            clear H
            go_wp2
            go_loopg [10] k3 (fun kq v10 w' => ∃ (x8_4 : List Int) (x10_4 : Int), v10 = .int .i64 x10_4 ∧ Aside0 (stencilref02_Mul.l1 kq (decide ((wrap64 (t325 * t326)) < 0)) t334 t338 x8_4 x9_3 x10_4 = some (r1, r2)) ∧ Aside0 (kq ≤ k3) ∧ Aside0 (Kd.R (Kd.int .i64) 3 w' w.heap.size (fun k_ => some k_ ≠ ((.slice Ao77 t338.length co77) : Value).ownBlock ∧ some k_ ≠ (v342 : Value).ownBlock) (.slice Ao76 t334.length co76) t334) ∧ Aside0 (Kd.R (Kd.int .i64) 3 w' w.heap.size (fun k_ => some k_ ≠ ((.slice Ao76 t334.length co76) : Value).ownBlock ∧ some k_ ≠ (v342 : Value).ownBlock) (.slice Ao77 t338.length co77) t338) ∧ Aside0 (Kd.R (Kd.int .i64) 3 w' w.heap.size (fun k_ => some k_ ≠ ((.slice Ao76 t334.length co76) : Value).ownBlock ∧ some k_ ≠ ((.slice Ao77 t338.length co77) : Value).ownBlock) v342 x8_4) ∧ Aside0 (w'.heap[gb320]? = some (.cells #[.int .i64 a0_0, .int .i64 a0_1] 24 (0, 0))) ∧ Aside0 (w'.heap[gb321]? = some (.cells #[.int .i64 a1_0, .int .i64 a1_1] 24 (0, 0))) ∧ Aside0 (w'.heap[gb322]? = some (.cells #[.int .i64 0, .int .i64 0] 24 (0, 0))) ∧ Aside0 (Below w.heap.size w w'))
            case atStart => exact ⟨(x8_3), (0), (by first | rfl | (simp; done) | (simp [*]; done)), H', ⟨Nat.le_refl _⟩, ⟨by (with_reducible repeat (first | apply Kd.R_alloc | apply Kd.R_drewN | apply Kd.R_drew)); exact HO_6.out⟩, ⟨by (with_reducible repeat (first | apply Kd.R_alloc | apply Kd.R_drewN | apply Kd.R_drew)); exact HO_7.out⟩, ⟨by (with_reducible repeat (first | apply Kd.R_alloc | apply Kd.R_drewN | apply Kd.R_drew)); exact HO_8.out⟩, ⟨by (with_reducible repeat (first | refine blk_drewN ?_ _ | refine blk_drew ?_ | refine blk_alloc ?_ _)); exact BK320.out⟩, ⟨by (with_reducible repeat (first | refine blk_drewN ?_ _ | refine blk_drew ?_ | refine blk_alloc ?_ _)); exact BK321.out⟩, ⟨by (with_reducible repeat (first | refine blk_drewN ?_ _ | refine blk_drew ?_ | refine blk_alloc ?_ _)); exact BK322.out⟩, ⟨by repeat (first | (with_reducible first | exact HB.out | apply below_alloc | apply pw_below_drewN | apply below_drew1 | refine below_set ?_ GE320.out | refine below_set ?_ GE321.out | refine below_set ?_ GE322.out) | exact HB.out)⟩⟩
            case round =>
             clear H'
             try clear c1; try clear c2; try clear p2; try clear c3; try clear c4; try clear c5; try clear c6; try clear p6; try clear c7; try clear c7b0; try clear c7b1; try clear c8; try clear c9; try clear c11; try clear c12; try clear c14; try clear c16; try clear c19; try clear c20; try clear c28; try clear c28b0; try clear c28b1; try clear c29; try clear c30; try clear c32; try clear c34; try clear c35; try clear c37; try clear c40; try clear c40b0; try clear c40b1; try clear c41; try clear c42; try clear c46; try clear c47; try clear c50; try clear c53; try clear c56; try clear c57; try clear c61; try clear c62; try clear p64; try clear c69; try clear c69b0; try clear c69b1; try clear c70; try clear c70b0; try clear c70b1; try clear c76; try clear c78; try clear c79; try clear c80; try clear c80b0; try clear hcz10_0; try clear hcz10_1; try clear hcz13_0; try clear hcz13_1; try clear hcz15_0; try clear hcz15_1; try clear hcz21_0; try clear hcz21_1; try clear hcz31_0; try clear hcz31_1; try clear hcz33_0; try clear hcz33_1; try clear hcz36_0; try clear hcz36_1; try clear hcz43_0; try clear hcz43_1; try clear hcz48_0; try clear hcz48_1; try clear hcz51_0; try clear hcz51_1; try clear hcz58_0; try clear hcz58_1; try clear hcz63_0; try clear hcz63_1; try clear hfz10_0; try clear hfz10_1; try clear hfz13_0; try clear hfz13_1; try clear hfz15_0; try clear hfz15_1; try clear hfz21_0; try clear hfz21_1; try clear hfz31_0; try clear hfz31_1; try clear hfz33_0; try clear hfz33_1; try clear hfz36_0; try clear hfz36_1; try clear hfz43_0; try clear hfz43_1; try clear hfz48_0; try clear hfz48_1; try clear hfz51_0; try clear hfz51_1; try clear hfz58_0; try clear hfz58_1; try clear hfz63_0; try clear hfz63_1; try clear p2; try clear p6; try clear p64
             obtain ⟨x8_4, x10_4, rfl, HA, HK4, HO_6, HO_7, HO_8, BK320, BK321, BK322, HB⟩ := hrel
             cases gk with
             | zero => exact absurd HA.out (by simp [stencilref02_Mul.l1])
             | succ k4 =>
              have H := HA.out
              clear HA
              simp only [stencilref02_Mul.l1] at H
              by_cases c81 : x10_4 < (t338.length : Int)
              ·rw [if_pos c81] at H
               have c81b0 : decide (x10_4 < (t338.length : Int)) = true := decide_eq_true c81
               clear c81
               obtain ⟨ji82, hji82⟩ : ∃ j_ : Int, (wrap64 (x9_3 + x10_4)) = j_ := ⟨_, rfl⟩
               replace H : (if 0 ≤ (ji82) then (if (ji82) < (x8_4.length : Int) then (if 0 ≤ x9_3 then (if x9_3 < (t334.length : Int) then (if 0 ≤ x10_4 then (stencilref02_Mul.l1 k4 (decide ((wrap64 (t325 * t326)) < 0)) t334 t338 (x8_4.set ((ji82) : Int).toNat (wrap64 ((rd x8_4 (ji82)) + (wrap64 ((rd t334 x9_3) * (rd t338 x10_4)))))) x9_3 (wrap64 (x10_4 + 1))) else (none)) else (none)) else (none)) else (none)) else (none)) = some (r1, r2) := by first | (rw [hji82] at H; exact H) | (simp only [hji82] at H ⊢; exact H)
               have hji82w : (IntKind.i64.wrap (x9_3 + x10_4)) = ji82 := (i64_w _).trans hji82
               by_cases c83 : 0 ≤ (ji82)
               ·rw [if_pos c83] at H
                have c83b0 : decide (0 ≤ (ji82)) = true := decide_eq_true c83
                clear c83
                by_cases c84 : (ji82) < (x8_4.length : Int)
                ·rw [if_pos c84] at H
                 have c84b0 : decide ((ji82) < (x8_4.length : Int)) = true := decide_eq_true c84
                 clear c84
                 by_cases c85 : 0 ≤ x9_3
                 ·rw [if_pos c85] at H
                  have c85b0 : decide (0 ≤ x9_3) = true := decide_eq_true c85
                  clear c85
                  by_cases c86 : x9_3 < (t334.length : Int)
                  ·rw [if_pos c86] at H
                   have c86b0 : decide (x9_3 < (t334.length : Int)) = true := decide_eq_true c86
                   clear c86
                   by_cases c87 : 0 ≤ x10_4
                   ·rw [if_pos c87] at H
                    have c87b0 : decide (0 ≤ x10_4) = true := decide_eq_true c87
                    clear c87
                    obtain ⟨y347, hy347⟩ : ∃ y_ : List Int, y_ = (x8_4.set ((ji82) : Int).toNat (wrap64 ((rd x8_4 (ji82)) + (wrap64 ((rd t334 x9_3) * (rd t338 x10_4)))))) := ⟨_, rfl⟩
                    replace H : (stencilref02_Mul.l1 k4 (decide ((wrap64 (t325 * t326)) < 0)) t334 t338 y347 x9_3 (wrap64 (x10_4 + 1))) = some (r1, r2) := by first | (rw [hy347]; with_reducible exact H) | (have H2_ := (Option.bind_some _ _).symm.trans H; rw [hy347]; with_reducible exact H2_) | (have H2_ := (Option.bind_some _ _).symm.trans H; with_reducible exact H2_) | with_reducible exact H | (rw [hy347]; exact H) | exact H
                    have Ny347 := Aside0.mk hy347
                    clear hy347
                    have H' := Aside0.mk H
                    clear H
                    try go_wp2
                    replace HO_6 := Aside0.mk (Kd.R_drew HO_6.out)
                    replace HO_7 := Aside0.mk (Kd.R_drew HO_7.out)
                    replace HO_8 := Aside0.mk (Kd.R_drew HO_8.out)
                    replace BK320 := Aside0.mk (blk_drew BK320.out)
                    replace BK321 := Aside0.mk (blk_drew BK321.out)
                    replace BK322 := Aside0.mk (blk_drew BK322.out)
                    replace HB := Aside0.mk (below_drew1 HB.out)
                    obtain ⟨Ao90, co90, eo90⟩ := Kd.R_slice HO_8.out
                    (first | subst eo90 | (injection eo90 with f1_ f2_ f3_; have f4_ := f1_.symm; have f5_ := f3_.symm; clear f1_ f2_ f3_; subst f4_; subst f5_))
                    have p344 : 0 ≤ ((ji82) : Int) := of_decide_eq_true (by first | (with_reducible assumption) | assumption)
                    have q344 : (ji82) < (x8_4.length : Int) := of_decide_eq_true (by first | (with_reducible assumption) | assumption)
                    obtain ⟨ad344, e344, hx344_0⟩ := Kd.at_int (Kd.R_reads' HO_8.out).2.2 (ji82) p344 q344
                    cases e344
                    replace p344 := eq_true p344
                    replace q344 := eq_true q344
                    have p345 : 0 ≤ (x9_3 : Int) := of_decide_eq_true (by first | (with_reducible assumption) | assumption)
                    have q345 : x9_3 < (t334.length : Int) := of_decide_eq_true (by first | (with_reducible assumption) | assumption)
                    obtain ⟨ad345, e345, hx345_0⟩ := Kd.at_int (Kd.R_reads' HO_6.out).2.2 x9_3 p345 q345
                    cases e345
                    replace p345 := eq_true p345
                    replace q345 := eq_true q345
                    have p346 : 0 ≤ (x10_4 : Int) := of_decide_eq_true (by first | (with_reducible assumption) | assumption)
                    have q346 : x10_4 < (t338.length : Int) := of_decide_eq_true (by first | (with_reducible assumption) | assumption)
                    obtain ⟨ad346, e346, hx346_0⟩ := Kd.at_int (Kd.R_reads' HO_7.out).2.2 x10_4 p346 q346
                    cases e346
                    replace p346 := eq_true p346
                    replace q346 := eq_true q346
                    have p88 : 0 ≤ ((ji82) : Int) := of_decide_eq_true (by first | (with_reducible assumption) | assumption)
                    have q88 : ((ji82) : Int) < ((x8_4.length : Int) : Int) := of_decide_eq_true (by first | (with_reducible assumption) | assumption)
                    obtain ⟨go88, co88, eo88, gb88, gl88, cl88, HG88⟩ := Kd.R_form HO_8.out (by omega)
                    (first | cases eo88 | (injection eo88 with ea_ en_ ec_; (first | subst ea_ | (injection ea_ with ea_; subst ea_)); subst ec_; clear en_))
                    have GB88 := Aside0.mk gb88
                    have GG88 := Aside0.mk HG88
                    clear gb88 gl88 HG88
                    (first | simp only [add_plain] at hx344_0 | skip)
                    obtain ⟨hx88_0, hf88_0⟩ := Kd.R_celln 0 HO_8.out ((ji82) : Int) p88 q88
                    replace p88 := eq_true p88
                    replace q88 := eq_true q88
                    have HP91 := Kd.R_putn HO_8.out ((ji82) : Int) (wrap64 ((rd x8_4 (ji82)) + (wrap64 ((rd t334 x9_3) * (rd t338 x10_4)))))
                    rw [← Ny347.out] at HP91
                    have HQ91 := Aside0.mk HP91
                    clear HP91
                    refine start_ (n := 18) (S := fun w' => w'.cell? ⟨go88, ((ji82)).toNat, none⟩ = some (.int .i64 (rd x8_4 (ji82))) ∧ w'.cell? (ad345.add (x9_3).toNat) = some (.int .i64 (rd t334 x9_3)) ∧ w'.cell? (ad346.add (x10_4).toNat) = some (.int .i64 (rd t338 x10_4))) (ds := [17]) #[false, false, false, false, false, false, false, false, false, false, false, false, false, false, false, false, false, false] (by kernel_rfl) rfl rfl ⟨hx344_0, hx345_0, hx346_0⟩ (fun hHeld => ?_); refine with_tabW stencilref02_Mul.tab16 stencilref02_Mul.bits16 (fun HT_ HW_ => ?_)
                    generalize wr.drew = w89 at HO_6 HO_7 HO_8 BK320 BK321 BK322 HB GG88 HQ91 hf88_0 hx344_0 hx345_0 hx346_0 hx88_0 hHeld ⊢
                    refine pure_ (i := 0) (N := some 73) (v := ?_) (a' := ?_) #[true, false, false, false, false, false, false, false, false, false, false, false, false, false, false, false, false, false] rfl rfl (any_of HT_.out (by kernel_rfl)) (fun _ _ _ h => h) (Or.inl ⟨by rfl, ?_⟩) ?_ ?_
                    rotate_left
                    ·intro w'
                     go_simp
                     with_reducible rfl
                    rotate_left
                    ·simp only [Act.put, List.setIfInBounds_toArray, List.set_cons_zero, List.set_cons_succ, i64_w, i32_w]
                     rfl
                    refine pure_ (i := 1) (N := some 74) (v := ?_) (a' := ?_) #[true, true, false, false, false, false, false, false, false, false, false, false, false, false, false, false, false, false] rfl rfl (any_of HT_.out (by kernel_rfl)) (fun _ _ _ h => h) (Or.inl ⟨by rfl, ?_⟩) ?_ ?_
                    rotate_left
                    ·intro w'
                     go_simp
                     with_reducible rfl
                    rotate_left
                    ·simp only [Act.put, List.setIfInBounds_toArray, List.set_cons_zero, List.set_cons_succ, i64_w, i32_w]
                     rfl
                    refine pure_ (i := 2) (N := some 75) (v := ?_) (a' := ?_) #[true, true, true, false, false, false, false, false, false, false, false, false, false, false, false, false, false, false] rfl rfl (any_of HT_.out (by kernel_rfl)) (fun _ _ _ h => h) (Or.inl ⟨by rfl, ?_⟩) ?_ ?_
                    rotate_left
                    ·intro w'
                     go_simp
                     with_reducible rfl
                    rotate_left
                    ·simp only [Act.put, List.setIfInBounds_toArray, List.set_cons_zero, List.set_cons_succ, i64_w, i32_w]
                     rfl
                    refine pure_ (i := 3) (N := some 76) (v := ?_) (a' := ?_) #[true, true, true, true, false, false, false, false, false, false, false, false, false, false, false, false, false, false] rfl rfl (any_of HT_.out (by kernel_rfl)) (fun _ _ _ h => h) (Or.inl ⟨by rfl, ?_⟩) ?_ ?_
                    rotate_left
                    ·intro w'
                     go_simp
                     with_reducible rfl
                    rotate_left
                    ·simp only [Act.put, List.setIfInBounds_toArray, List.set_cons_zero, List.set_cons_succ, i64_w, i32_w]
                     rfl
                    refine pure_ (i := 4) (N := some 77) (v := ?_) (a' := ?_) #[true, true, true, true, true, false, false, false, false, false, false, false, false, false, false, false, false, false] rfl rfl (any_of HT_.out (by kernel_rfl)) (fun _ _ _ h => h) (Or.inl ⟨by rfl, ?_⟩) ?_ ?_
                    rotate_left
                    ·intro w'
                     go_simp
                     with_reducible rfl
                    rotate_left
                    ·simp only [Act.put, List.setIfInBounds_toArray, List.set_cons_zero, List.set_cons_succ, i64_w, i32_w]
                     rfl
                    refine pure_ (i := 6) (N := some 79) (v := ?_) (a' := ?_) #[true, true, true, true, true, false, true, false, false, false, false, false, false, false, false, false, false, false] rfl rfl (any_of HT_.out (by kernel_rfl)) (fun _ _ _ h => h) (Or.inl ⟨by rfl, ?_⟩) ?_ ?_
                    rotate_left
                    ·intro w'
                     go_simp
                     with_reducible rfl
                    rotate_left
                    ·simp only [Act.put, List.setIfInBounds_toArray, List.set_cons_zero, List.set_cons_succ, i64_w, i32_w]
                     rfl
                    refine pure_ (i := 7) (N := some 80) (v := ?_) (a' := ?_) #[true, true, true, true, true, false, true, true, false, false, false, false, false, false, false, false, false, false] rfl rfl (any_of HT_.out (by kernel_rfl)) (fun _ _ _ h => h) (Or.inl ⟨by rfl, ?_⟩) ?_ ?_
                    rotate_left
                    ·intro w'
                     go_simp
                     with_reducible rfl
                    rotate_left
                    ·simp only [Act.put, List.setIfInBounds_toArray, List.set_cons_zero, List.set_cons_succ, i64_w, i32_w]
                     rfl
                    refine pure_ (i := 8) (N := some 81) (v := ?_) (a' := ?_) #[true, true, true, true, true, false, true, true, true, false, false, false, false, false, false, false, false, false] rfl rfl (any_of HT_.out (by kernel_rfl)) (fun _ _ _ h => h) (Or.inl ⟨by rfl, ?_⟩) ?_ ?_
                    rotate_left
                    ·intro w'
                     go_simp
                     with_reducible rfl
                    rotate_left
                    ·simp only [Act.put, List.setIfInBounds_toArray, List.set_cons_zero, List.set_cons_succ, i64_w, i32_w]
                     rfl
                    refine pure_ (i := 10) (N := some 83) (v := ?_) (a' := ?_) #[true, true, true, true, true, false, true, true, true, false, true, false, false, false, false, false, false, false] rfl rfl (any_of HT_.out (by kernel_rfl)) (fun _ _ _ h => h) (Or.inl ⟨by rfl, ?_⟩) ?_ ?_
                    rotate_left
                    ·intro w'
                     go_simp
                     with_reducible rfl
                    rotate_left
                    ·simp only [Act.put, List.setIfInBounds_toArray, List.set_cons_zero, List.set_cons_succ, i64_w, i32_w]
                     rfl
                    refine pure_ (i := 11) (N := some 84) (v := ?_) (a' := ?_) #[true, true, true, true, true, false, true, true, true, false, true, true, false, false, false, false, false, false] rfl rfl (any_of HT_.out (by kernel_rfl)) (fun _ _ _ h => h) (Or.inl ⟨by rfl, ?_⟩) ?_ ?_
                    rotate_left
                    ·intro w'
                     go_simp
                     with_reducible rfl
                    rotate_left
                    ·simp only [Act.put, List.setIfInBounds_toArray, List.set_cons_zero, List.set_cons_succ, i64_w, i32_w]
                     rfl
                    refine pure_ (i := 12) (N := some 85) (v := ?_) (a' := ?_) #[true, true, true, true, true, false, true, true, true, false, true, true, true, false, false, false, false, false] rfl rfl (any_of HT_.out (by kernel_rfl)) (fun _ _ _ h => h) (Or.inl ⟨by rfl, ?_⟩) ?_ ?_
                    rotate_left
                    ·intro w'
                     go_simp
                     with_reducible rfl
                    rotate_left
                    ·simp only [Act.put, List.setIfInBounds_toArray, List.set_cons_zero, List.set_cons_succ, i64_w, i32_w]
                     rfl
                    refine take_ (i := 5) (N := some 78) (v := ?_) (a' := ?_) #[true, true, true, true, true, true, true, true, true, false, true, true, true, false, false, false, false, false] rfl rfl (take_ofW HT_.out HW_.out (by kernel_rfl)) (fun _ _ _ h => h) (Or.inl ⟨by rfl, ?_⟩) hHeld ?_ ?_
                    rotate_left
                    ·rintro w' ⟨s0, s1, s2⟩
                     go_simp
                     with_reducible rfl
                    rotate_left
                    ·simp only [Act.put, List.setIfInBounds_toArray, List.set_cons_zero, List.set_cons_succ, i64_w, i32_w]
                     rfl
                    refine take_ (i := 9) (N := some 82) (v := ?_) (a' := ?_) #[true, true, true, true, true, true, true, true, true, true, true, true, true, false, false, false, false, false] rfl rfl (take_ofW HT_.out HW_.out (by kernel_rfl)) (fun _ _ _ h => h) (Or.inl ⟨by rfl, ?_⟩) hHeld ?_ ?_
                    rotate_left
                    ·rintro w' ⟨s0, s1, s2⟩
                     go_simp
                     with_reducible rfl
                    rotate_left
                    ·simp only [Act.put, List.setIfInBounds_toArray, List.set_cons_zero, List.set_cons_succ, i64_w, i32_w]
                     rfl
                    refine take_ (i := 13) (N := some 86) (v := ?_) (a' := ?_) #[true, true, true, true, true, true, true, true, true, true, true, true, true, true, false, false, false, false] rfl rfl (take_ofW HT_.out HW_.out (by kernel_rfl)) (fun _ _ _ h => h) (Or.inl ⟨by rfl, ?_⟩) hHeld ?_ ?_
                    rotate_left
                    ·rintro w' ⟨s0, s1, s2⟩
                     go_simp
                     with_reducible rfl
                    rotate_left
                    ·simp only [Act.put, List.setIfInBounds_toArray, List.set_cons_zero, List.set_cons_succ, i64_w, i32_w]
                     rfl
                    refine pure_ (i := 14) (N := some 87) (v := ?_) (a' := ?_) #[true, true, true, true, true, true, true, true, true, true, true, true, true, true, true, false, false, false] rfl rfl (any_of HT_.out (by kernel_rfl)) (fun _ _ _ h => h) (Or.inl ⟨by rfl, ?_⟩) ?_ ?_
                    rotate_left
                    ·intro w'
                     go_simp
                     with_reducible rfl
                    rotate_left
                    ·simp only [Act.put, List.setIfInBounds_toArray, List.set_cons_zero, List.set_cons_succ, i64_w, i32_w]
                     rfl
                    refine pure_ (i := 15) (N := some 88) (v := ?_) (a' := ?_) #[true, true, true, true, true, true, true, true, true, true, true, true, true, true, true, true, false, false] rfl rfl (any_of HT_.out (by kernel_rfl)) (fun _ _ _ h => h) (Or.inl ⟨by rfl, ?_⟩) ?_ ?_
                    rotate_left
                    ·intro w'
                     go_simp
                     with_reducible rfl
                    rotate_left
                    ·simp only [Act.put, List.setIfInBounds_toArray, List.set_cons_zero, List.set_cons_succ, i64_w, i32_w]
                     rfl
                    refine pure_ (i := 16) (N := some 89) (v := ?_) (a' := ?_) #[true, true, true, true, true, true, true, true, true, true, true, true, true, true, true, true, true, false] rfl rfl (any_of HT_.out (by kernel_rfl)) (fun _ _ _ h => h) (Or.inl ⟨by rfl, ?_⟩) ?_ ?_
                    rotate_left
                    ·intro w'
                     go_simp
                     with_reducible rfl
                    rotate_left
                    ·simp only [Act.put, List.setIfInBounds_toArray, List.set_cons_zero, List.set_cons_succ, i64_w, i32_w]
                     rfl
                    refine last_ (i := 17) (N := none) #[true, true, true, true, true, true, true, true, true, true, true, true, true, true, true, true, true, true] rfl rfl (one_of HT_.out (by kernel_rfl)) (by decide) (fun K hK => ?_)
                    refine skip_ (w1 := ?_) (by rfl) rfl ?_ ?_
                    rotate_left
                    ·go_simp
                     rfl
                    refine hK.out _ _ ?_
                    clear hK K
                    refine done_ (done_of HT_.out (by kernel_rfl)) ?_
                    try go_wp2
                    go_roundg k4
                    case measure => have := HJ2.out; have := HJ23.out; have := HK3.out; have := HK4.out; omega
                    case rel => exact ⟨(y347), (wrap64 (x10_4 + 1)), (by first | rfl | (simp; done) | (simp [*]; done)), H', ⟨by have := HJ2.out; have := HJ23.out; have := HK3.out; have := HK4.out; omega⟩, ⟨by (with_reducible repeat (first | apply Kd.R_alloc | apply Kd.R_drewN | apply Kd.R_drew)); exact Kd.R_mono (Kd.R_far (p := ⟨go88, ((ji82) : Int).toNat, none⟩) (Kd.R_mono HO_6.out (fun k_ hk => (⟨hk, fun e_ => hk.2 (by rw [e_]; rfl)⟩ : _ ∧ k_ ≠ go88))) (fun _ hk => hk.2) (.int .i64 (wrap64 ((rd x8_4 (ji82)) + (wrap64 ((rd t334 x9_3) * (rd t338 x10_4))))))) (fun _ hk => ⟨hk.1.1, hk.1.2⟩)⟩, ⟨by (with_reducible repeat (first | apply Kd.R_alloc | apply Kd.R_drewN | apply Kd.R_drew)); exact Kd.R_mono (Kd.R_far (p := ⟨go88, ((ji82) : Int).toNat, none⟩) (Kd.R_mono HO_7.out (fun k_ hk => (⟨hk, fun e_ => hk.2 (by rw [e_]; rfl)⟩ : _ ∧ k_ ≠ go88))) (fun _ hk => hk.2) (.int .i64 (wrap64 ((rd x8_4 (ji82)) + (wrap64 ((rd t334 x9_3) * (rd t338 x10_4))))))) (fun _ hk => ⟨hk.1.1, hk.1.2⟩)⟩, ⟨by (with_reducible repeat (first | apply Kd.R_alloc | apply Kd.R_drewN | apply Kd.R_drew)); exact HQ91.out⟩, ⟨by (with_reducible repeat (first | refine blk_drewN ?_ _ | refine blk_drew ?_ | refine blk_alloc ?_ _)); refine blk_far ?_ (by have h_ := Kd.R_ne HO_8.out BK320.out (by decide); intro e_; exact h_ (by rw [e_]; rfl)) _; (with_reducible repeat (first | refine blk_drewN ?_ _ | refine blk_drew ?_ | refine blk_alloc ?_ _)); exact BK320.out⟩, ⟨by (with_reducible repeat (first | refine blk_drewN ?_ _ | refine blk_drew ?_ | refine blk_alloc ?_ _)); refine blk_far ?_ (by have h_ := Kd.R_ne HO_8.out BK321.out (by decide); intro e_; exact h_ (by rw [e_]; rfl)) _; (with_reducible repeat (first | refine blk_drewN ?_ _ | refine blk_drew ?_ | refine blk_alloc ?_ _)); exact BK321.out⟩, ⟨by (with_reducible repeat (first | refine blk_drewN ?_ _ | refine blk_drew ?_ | refine blk_alloc ?_ _)); refine blk_far ?_ (by have h_ := Kd.R_ne HO_8.out BK322.out (by decide); intro e_; exact h_ (by rw [e_]; rfl)) _; (with_reducible repeat (first | refine blk_drewN ?_ _ | refine blk_drew ?_ | refine blk_alloc ?_ _)); exact BK322.out⟩, ⟨by repeat (first | (with_reducible first | exact HB.out | apply below_alloc | apply pw_below_drewN | apply below_drew1 | refine below_set ?_ GB88.out | refine below_set ?_ GE320.out | refine below_set ?_ GE321.out | refine below_set ?_ GE322.out) | exact HB.out)⟩⟩
                   ·rw [if_neg c87] at H
                    exact absurd H (by simp)
                  ·rw [if_neg c86] at H
                   exact absurd H (by simp)
                 ·rw [if_neg c85] at H
                  exact absurd H (by simp)
                ·rw [if_neg c84] at H
                 exact absurd H (by simp)
               ·rw [if_neg c83] at H
                exact absurd H (by simp)
              ·rw [if_neg c81] at H
               have c81b0 : decide (x10_4 < (t338.length : Int)) = false := decide_eq_false c81
               clear c81
               have H' := Aside0.mk H
               clear H
               go_wp2
               go_roundg k4
               case measure => have := HJ2.out; have := HJ23.out; have := HK3.out; have := HK4.out; omega
               case rel => exact ⟨(x8_4), (wrap64 (x9_3 + 1)), (by first | rfl | (simp; done) | (simp [*]; done)), H', ⟨by have := HJ2.out; have := HJ23.out; have := HK3.out; have := HK4.out; omega⟩, ⟨by (with_reducible repeat (first | apply Kd.R_alloc | apply Kd.R_drewN | apply Kd.R_drew)); exact HO_6.out⟩, ⟨by (with_reducible repeat (first | apply Kd.R_alloc | apply Kd.R_drewN | apply Kd.R_drew)); exact HO_7.out⟩, ⟨by (with_reducible repeat (first | apply Kd.R_alloc | apply Kd.R_drewN | apply Kd.R_drew)); exact HO_8.out⟩, ⟨by (with_reducible repeat (first | refine blk_drewN ?_ _ | refine blk_drew ?_ | refine blk_alloc ?_ _)); exact BK320.out⟩, ⟨by (with_reducible repeat (first | refine blk_drewN ?_ _ | refine blk_drew ?_ | refine blk_alloc ?_ _)); exact BK321.out⟩, ⟨by (with_reducible repeat (first | refine blk_drewN ?_ _ | refine blk_drew ?_ | refine blk_alloc ?_ _)); exact BK322.out⟩, ⟨by repeat (first | (with_reducible first | exact HB.out | apply below_alloc | apply pw_below_drewN | apply below_drew1 | refine below_set ?_ GE320.out | refine below_set ?_ GE321.out | refine below_set ?_ GE322.out) | exact HB.out)⟩⟩
           ·rw [if_neg c80] at H
            have c80b0 : decide (x9_3 < (t334.length : Int)) = false := decide_eq_false c80
            clear c80
            have H' := Aside0.mk H
            clear H
            go_wp2
            go_loopg [11] k3 (fun kq v11 w' => ∃ (x8_4 : List Int) (x11_4 : Int), v11 = .int .i64 x11_4 ∧ Aside0 (stencilref02_Mul.l2 kq (decide ((wrap64 (t325 * t326)) < 0)) x8_4 x11_4 = some (r1, r2)) ∧ Aside0 (kq ≤ k3) ∧ Aside0 (Kd.R (Kd.int .i64) 3 w' w.heap.size (fun _ => True) v342 x8_4) ∧ Aside0 (w'.heap[gb320]? = some (.cells #[.int .i64 a0_0, .int .i64 a0_1] 24 (0, 0))) ∧ Aside0 (w'.heap[gb321]? = some (.cells #[.int .i64 a1_0, .int .i64 a1_1] 24 (0, 0))) ∧ Aside0 (w'.heap[gb322]? = some (.cells #[.int .i64 0, .int .i64 0] 24 (0, 0))) ∧ Aside0 (Below w.heap.size w w'))
            case atStart => exact ⟨(x8_3), (0), (by first | rfl | (simp; done) | (simp [*]; done)), H', ⟨Nat.le_refl _⟩, ⟨by (with_reducible repeat (first | apply Kd.R_alloc | apply Kd.R_drewN | apply Kd.R_drew)); exact Kd.R_mono HO_8.out (fun _ hk => trivial)⟩, ⟨by (with_reducible repeat (first | refine blk_drewN ?_ _ | refine blk_drew ?_ | refine blk_alloc ?_ _)); exact BK320.out⟩, ⟨by (with_reducible repeat (first | refine blk_drewN ?_ _ | refine blk_drew ?_ | refine blk_alloc ?_ _)); exact BK321.out⟩, ⟨by (with_reducible repeat (first | refine blk_drewN ?_ _ | refine blk_drew ?_ | refine blk_alloc ?_ _)); exact BK322.out⟩, ⟨by repeat (first | (with_reducible first | exact HB.out | apply below_alloc | apply pw_below_drewN | apply below_drew1 | refine below_set ?_ GE320.out | refine below_set ?_ GE321.out | refine below_set ?_ GE322.out) | exact HB.out)⟩⟩
            case round =>
             clear H'
             try clear c1; try clear c2; try clear p2; try clear c3; try clear p3; try clear q3; try clear hx3; try clear c4; try clear c5; try clear c6; try clear p6; try clear c7; try clear c7b0; try clear c7b1; try clear c8; try clear p8; try clear q8; try clear hx8; try clear hf8; try clear c9; try clear c11; try clear c12; try clear c14; try clear c16; try clear c19; try clear c20; try clear c28; try clear c28b0; try clear c28b1; try clear c29; try clear c30; try clear c32; try clear c34; try clear p34; try clear q34; try clear hx34; try clear c35; try clear c37; try clear c40; try clear c40b0; try clear c40b1; try clear c41; try clear c42; try clear c46; try clear c47; try clear c50; try clear c53; try clear c56; try clear c57; try clear c61; try clear c62; try clear p64; try clear c69; try clear c69b0; try clear c69b1; try clear c70; try clear c70b0; try clear c70b1; try clear c76; try clear c78; try clear c79; try clear c80; try clear c80b0; try clear c81; try clear c81b0; try clear c83; try clear c83b0; try clear c84; try clear c84b0; try clear c85; try clear c85b0; try clear c86; try clear c86b0; try clear c87; try clear c87b0; try clear p88; try clear q88; try clear hx88; try clear hf88; try clear hcz10_0; try clear hcz10_1; try clear hcz13_0; try clear hcz13_1; try clear hcz15_0; try clear hcz15_1; try clear hcz21_0; try clear hcz21_1; try clear hcz31_0; try clear hcz31_1; try clear hcz33_0; try clear hcz33_1; try clear hcz36_0; try clear hcz36_1; try clear hcz43_0; try clear hcz43_1; try clear hcz48_0; try clear hcz48_1; try clear hcz51_0; try clear hcz51_1; try clear hcz58_0; try clear hcz58_1; try clear hcz63_0; try clear hcz63_1; try clear hfz10_0; try clear hfz10_1; try clear hfz13_0; try clear hfz13_1; try clear hfz15_0; try clear hfz15_1; try clear hfz21_0; try clear hfz21_1; try clear hfz31_0; try clear hfz31_1; try clear hfz33_0; try clear hfz33_1; try clear hfz36_0; try clear hfz36_1; try clear hfz43_0; try clear hfz43_1; try clear hfz48_0; try clear hfz48_1; try clear hfz51_0; try clear hfz51_1; try clear hfz58_0; try clear hfz58_1; try clear hfz63_0; try clear hfz63_1; try clear hx344_0; try clear hx345_0; try clear hx346_0; try clear hx88_0; try clear p2; try clear p344; try clear p345; try clear p346; try clear p6; try clear p64; try clear p88; try clear q344; try clear q345; try clear q346; try clear q88
             obtain ⟨x8_4, x11_4, rfl, HA, HK4, HO_8, BK320, BK321, BK322, HB⟩ := hrel
             cases gk with
             | zero => exact absurd HA.out (by simp [stencilref02_Mul.l2])
             | succ k4 =>
              have H := HA.out
              clear HA
              simp only [stencilref02_Mul.l2] at H
              by_cases c92 : (wrap64 (x11_4 + 1)) < (x8_4.length : Int)
              ·rw [if_pos c92] at H
               have c92b0 : decide ((wrap64 (x11_4 + 1)) < (x8_4.length : Int)) = true := decide_eq_true c92
               clear c92
               obtain ⟨ji93, hji93⟩ : ∃ j_ : Int, (wrap64 (x11_4 + 1)) = j_ := ⟨_, rfl⟩
               replace H : (if 0 ≤ (ji93) then (if 0 ≤ x11_4 then (if x11_4 < (x8_4.length : Int) then ((some (x8_4.set ((ji93) : Int).toNat (wrap64 ((rd x8_4 (ji93)) + (wrap64 (Int.tdiv (rd x8_4 x11_4) 10)))) : List Int)).bind fun y350 => (stencilref02_Mul.l2 k4 (decide ((wrap64 (t325 * t326)) < 0)) (y350.set (x11_4 : Int).toNat (Int.tmod (rd y350 x11_4) 10)) ji93)) else (none)) else (none)) else (none)) = some (r1, r2) := by first | (rw [hji93] at H; exact H) | (simp only [hji93] at H ⊢; exact H)
               (try rw [hji93] at c92b0)
               have hji93w : (IntKind.i64.wrap (x11_4 + 1)) = ji93 := (i64_w _).trans hji93
               by_cases c94 : 0 ≤ (ji93)
               ·rw [if_pos c94] at H
                have c94b0 : decide (0 ≤ (ji93)) = true := decide_eq_true c94
                clear c94
                by_cases c95 : 0 ≤ x11_4
                ·rw [if_pos c95] at H
                 have c95b0 : decide (0 ≤ x11_4) = true := decide_eq_true c95
                 clear c95
                 by_cases c96 : x11_4 < (x8_4.length : Int)
                 ·rw [if_pos c96] at H
                  have c96b0 : decide (x11_4 < (x8_4.length : Int)) = true := decide_eq_true c96
                  clear c96
                  obtain ⟨y350, hy350⟩ : ∃ y_ : List Int, y_ = (x8_4.set ((ji93) : Int).toNat (wrap64 ((rd x8_4 (ji93)) + (wrap64 (Int.tdiv (rd x8_4 x11_4) 10))))) := ⟨_, rfl⟩
                  replace H : (stencilref02_Mul.l2 k4 (decide ((wrap64 (t325 * t326)) < 0)) (y350.set (x11_4 : Int).toNat (Int.tmod (rd y350 x11_4) 10)) ji93) = some (r1, r2) := by first | (rw [hy350]; with_reducible exact H) | (have H2_ := (Option.bind_some _ _).symm.trans H; rw [hy350]; with_reducible exact H2_) | (have H2_ := (Option.bind_some _ _).symm.trans H; with_reducible exact H2_) | with_reducible exact H | (rw [hy350]; exact H) | exact H
                  have Ny350 := Aside0.mk hy350
                  clear hy350
                  obtain ⟨y352, hy352⟩ : ∃ y_ : List Int, y_ = (y350.set (x11_4 : Int).toNat (Int.tmod (rd y350 x11_4) 10)) := ⟨_, rfl⟩
                  replace H : (stencilref02_Mul.l2 k4 (decide ((wrap64 (t325 * t326)) < 0)) y352 ji93) = some (r1, r2) := by first | (rw [hy352]; with_reducible exact H) | (have H2_ := (Option.bind_some _ _).symm.trans H; rw [hy352]; with_reducible exact H2_) | (have H2_ := (Option.bind_some _ _).symm.trans H; with_reducible exact H2_) | with_reducible exact H | (rw [hy352]; exact H) | exact H
                  have Ny352 := Aside0.mk hy352
                  clear hy352
                  have H' := Aside0.mk H
                  clear H
                  obtain ⟨Ao99, co99, eo99⟩ := Kd.R_slice HO_8.out
                  subst eo99
                  try go_wp2
                  replace HO_8 := Aside0.mk (Kd.R_drew HO_8.out)
                  replace BK320 := Aside0.mk (blk_drew BK320.out)
                  replace BK321 := Aside0.mk (blk_drew BK321.out)
                  replace BK322 := Aside0.mk (blk_drew BK322.out)
                  replace HB := Aside0.mk (below_drew1 HB.out)
                  have p348 : 0 ≤ ((ji93) : Int) := of_decide_eq_true (by first | (with_reducible assumption) | assumption)
                  have q348 : (ji93) < (x8_4.length : Int) := of_decide_eq_true (by first | (with_reducible assumption) | assumption)
                  obtain ⟨ad348, e348, hx348_0⟩ := Kd.at_int (Kd.R_reads' HO_8.out).2.2 (ji93) p348 q348
                  cases e348
                  replace p348 := eq_true p348
                  replace q348 := eq_true q348
                  have p349 : 0 ≤ (x11_4 : Int) := of_decide_eq_true (by first | (with_reducible assumption) | assumption)
                  have q349 : x11_4 < (x8_4.length : Int) := of_decide_eq_true (by first | (with_reducible assumption) | assumption)
                  obtain ⟨ad349, e349, hx349_0⟩ := Kd.at_int (Kd.R_reads' HO_8.out).2.2 x11_4 p349 q349
                  obtain rfl : ad348 = ad349 := (by injection e349)
                  replace p349 := eq_true p349
                  replace q349 := eq_true q349
                  have p97 : 0 ≤ ((ji93) : Int) := of_decide_eq_true (by first | (with_reducible assumption) | assumption)
                  have q97 : ((ji93) : Int) < ((x8_4.length : Int) : Int) := of_decide_eq_true (by first | (with_reducible assumption) | assumption)
                  obtain ⟨go97, co97, eo97, gb97, gl97, cl97, HG97⟩ := Kd.R_form HO_8.out (by omega)
                  (first | cases eo97 | (injection eo97 with ea_ en_ ec_; (first | subst ea_ | (injection ea_ with ea_; subst ea_)); subst ec_; clear en_))
                  have GB97 := Aside0.mk gb97
                  have GG97 := Aside0.mk HG97
                  clear gb97 gl97 HG97
                  (first | simp only [add_plain] at hx348_0 | skip)
                  (first | simp only [add_plain] at hx349_0 | skip)
                  obtain ⟨hx97_0, hf97_0⟩ := Kd.R_celln 0 HO_8.out ((ji93) : Int) p97 q97
                  replace p97 := eq_true p97
                  replace q97 := eq_true q97
                  have HP101 := Kd.R_putn HO_8.out ((ji93) : Int) (wrap64 ((rd x8_4 (ji93)) + (wrap64 (Int.tdiv (rd x8_4 x11_4) 10))))
                  rw [← Ny350.out] at HP101
                  have HQ101 := Aside0.mk HP101
                  clear HP101
                  refine start_ (n := 13) (S := fun w' => w'.cell? ⟨go97, ((ji93)).toNat, none⟩ = some (.int .i64 (rd x8_4 (ji93))) ∧ w'.cell? ⟨go97, (x11_4).toNat, none⟩ = some (.int .i64 (rd x8_4 x11_4))) (ds := [12]) #[false, false, false, false, false, false, false, false, false, false, false, false, false] (by kernel_rfl) rfl rfl ⟨hx348_0, hx349_0⟩ (fun hHeld => ?_); refine with_tabW stencilref02_Mul.tab20 stencilref02_Mul.bits20 (fun HT_ HW_ => ?_)
                  generalize wr.drew = w100 at HO_8 BK320 BK321 BK322 HB GG97 HQ101 hf97_0 hx348_0 hx349_0 hx97_0 hHeld ⊢
                  refine pure_ (i := 0) (N := some 97) (v := ?_) (a' := ?_) #[true, false, false, false, false, false, false, false, false, false, false, false, false] rfl rfl (any_of HT_.out (by kernel_rfl)) (fun _ _ _ h => h) (Or.inl ⟨by rfl, ?_⟩) ?_ ?_
                  rotate_left
                  ·intro w'
                   go_simp
                   with_reducible rfl
                  rotate_left
                  ·simp only [Act.put, List.setIfInBounds_toArray, List.set_cons_zero, List.set_cons_succ, i64_w, i32_w]
                   rfl
                  refine pure_ (i := 1) (N := some 98) (v := ?_) (a' := ?_) #[true, true, false, false, false, false, false, false, false, false, false, false, false] rfl rfl (any_of HT_.out (by kernel_rfl)) (fun _ _ _ h => h) (Or.inl ⟨by rfl, ?_⟩) ?_ ?_
                  rotate_left
                  ·intro w'
                   go_simp
                   with_reducible rfl
                  rotate_left
                  ·simp only [Act.put, List.setIfInBounds_toArray, List.set_cons_zero, List.set_cons_succ, i64_w, i32_w]
                   rfl
                  refine pure_ (i := 2) (N := some 99) (v := ?_) (a' := ?_) #[true, true, true, false, false, false, false, false, false, false, false, false, false] rfl rfl (any_of HT_.out (by kernel_rfl)) (fun _ _ _ h => h) (Or.inl ⟨by rfl, ?_⟩) ?_ ?_
                  rotate_left
                  ·intro w'
                   go_simp
                   with_reducible rfl
                  rotate_left
                  ·simp only [Act.put, List.setIfInBounds_toArray, List.set_cons_zero, List.set_cons_succ, i64_w, i32_w]
                   rfl
                  refine pure_ (i := 3) (N := some 100) (v := ?_) (a' := ?_) #[true, true, true, true, false, false, false, false, false, false, false, false, false] rfl rfl (any_of HT_.out (by kernel_rfl)) (fun _ _ _ h => h) (Or.inl ⟨by rfl, ?_⟩) ?_ ?_
                  rotate_left
                  ·intro w'
                   go_simp
                   with_reducible rfl
                  rotate_left
                  ·simp only [Act.put, List.setIfInBounds_toArray, List.set_cons_zero, List.set_cons_succ, i64_w, i32_w]
                   rfl
                  refine pure_ (i := 5) (N := some 102) (v := ?_) (a' := ?_) #[true, true, true, true, false, true, false, false, false, false, false, false, false] rfl rfl (any_of HT_.out (by kernel_rfl)) (fun _ _ _ h => h) (Or.inl ⟨by rfl, ?_⟩) ?_ ?_
                  rotate_left
                  ·intro w'
                   go_simp
                   with_reducible rfl
                  rotate_left
                  ·simp only [Act.put, List.setIfInBounds_toArray, List.set_cons_zero, List.set_cons_succ, i64_w, i32_w]
                   rfl
                  refine pure_ (i := 6) (N := some 103) (v := ?_) (a' := ?_) #[true, true, true, true, false, true, true, false, false, false, false, false, false] rfl rfl (any_of HT_.out (by kernel_rfl)) (fun _ _ _ h => h) (Or.inl ⟨by rfl, ?_⟩) ?_ ?_
                  rotate_left
                  ·intro w'
                   go_simp
                   with_reducible rfl
                  rotate_left
                  ·simp only [Act.put, List.setIfInBounds_toArray, List.set_cons_zero, List.set_cons_succ, i64_w, i32_w]
                   rfl
                  refine pure_ (i := 7) (N := some 104) (v := ?_) (a' := ?_) #[true, true, true, true, false, true, true, true, false, false, false, false, false] rfl rfl (any_of HT_.out (by kernel_rfl)) (fun _ _ _ h => h) (Or.inl ⟨by rfl, ?_⟩) ?_ ?_
                  rotate_left
                  ·intro w'
                   go_simp
                   with_reducible rfl
                  rotate_left
                  ·simp only [Act.put, List.setIfInBounds_toArray, List.set_cons_zero, List.set_cons_succ, i64_w, i32_w]
                   rfl
                  refine take_ (i := 4) (N := some 101) (v := ?_) (a' := ?_) #[true, true, true, true, true, true, true, true, false, false, false, false, false] rfl rfl (take_ofW HT_.out HW_.out (by kernel_rfl)) (fun _ _ _ h => h) (Or.inl ⟨by rfl, ?_⟩) hHeld ?_ ?_
                  rotate_left
                  ·rintro w' ⟨s0, s1⟩
                   go_simp
                   with_reducible rfl
                  rotate_left
                  ·simp only [Act.put, List.setIfInBounds_toArray, List.set_cons_zero, List.set_cons_succ, i64_w, i32_w]
                   rfl
                  refine take_ (i := 8) (N := some 105) (v := ?_) (a' := ?_) #[true, true, true, true, true, true, true, true, true, false, false, false, false] rfl rfl (take_ofW HT_.out HW_.out (by kernel_rfl)) (fun _ _ _ h => h) (Or.inl ⟨by rfl, ?_⟩) hHeld ?_ ?_
                  rotate_left
                  ·rintro w' ⟨s0, s1⟩
                   go_simp
                   with_reducible rfl
                  rotate_left
                  ·simp only [Act.put, List.setIfInBounds_toArray, List.set_cons_zero, List.set_cons_succ, i64_w, i32_w]
                   rfl
                  refine pure_ (i := 9) (N := some 106) (v := ?_) (a' := ?_) #[true, true, true, true, true, true, true, true, true, true, false, false, false] rfl rfl (any_of HT_.out (by kernel_rfl)) (fun _ _ _ h => h) (Or.inl ⟨by rfl, ?_⟩) ?_ ?_
                  rotate_left
                  ·intro w'
                   go_simp
                   with_reducible rfl
                  rotate_left
                  ·simp only [Act.put, List.setIfInBounds_toArray, List.set_cons_zero, List.set_cons_succ, i64_w, i32_w]
                   rfl
                  refine pure_ (i := 10) (N := some 107) (v := ?_) (a' := ?_) #[true, true, true, true, true, true, true, true, true, true, true, false, false] rfl rfl (any_of HT_.out (by kernel_rfl)) (fun _ _ _ h => h) (Or.inl ⟨by rfl, ?_⟩) ?_ ?_
                  rotate_left
                  ·intro w'
                   go_simp
                   with_reducible rfl
                  rotate_left
                  ·simp only [Act.put, List.setIfInBounds_toArray, List.set_cons_zero, List.set_cons_succ, i64_w, i32_w]
                   rfl
                  refine pure_ (i := 11) (N := some 108) (v := ?_) (a' := ?_) #[true, true, true, true, true, true, true, true, true, true, true, true, false] rfl rfl (any_of HT_.out (by kernel_rfl)) (fun _ _ _ h => h) (Or.inl ⟨by rfl, ?_⟩) ?_ ?_
                  rotate_left
                  ·intro w'
                   go_simp
                   with_reducible rfl
                  rotate_left
                  ·simp only [Act.put, List.setIfInBounds_toArray, List.set_cons_zero, List.set_cons_succ, i64_w, i32_w]
                   rfl
                  refine last_ (i := 12) (N := none) #[true, true, true, true, true, true, true, true, true, true, true, true, true] rfl rfl (one_of HT_.out (by kernel_rfl)) (by decide) (fun K hK => ?_)
                  refine skip_ (w1 := ?_) (by rfl) rfl ?_ ?_
                  rotate_left
                  ·go_simp
                   rfl
                  refine hK.out _ _ ?_
                  clear hK K
                  refine done_ (done_of HT_.out (by kernel_rfl)) ?_
                  have n0_ : Aside0 (Kd.R (Kd.int .i64) 3 (w100.setCell ⟨go97, ((ji93) : Int).toNat, none⟩ (.int .i64 (wrap64 ((rd x8_4 (ji93)) + (wrap64 (Int.tdiv (rd x8_4 x11_4) 10)))))) w.heap.size (fun _ => True) (.slice (some ⟨go97, 0, none⟩) x8_4.length co99) y350) := ⟨by (with_reducible repeat (first | apply Kd.R_alloc | apply Kd.R_drewN | apply Kd.R_drew)); exact HQ101.out⟩
                  have n1_ : Aside0 ((w100.setCell ⟨go97, ((ji93) : Int).toNat, none⟩ (.int .i64 (wrap64 ((rd x8_4 (ji93)) + (wrap64 (Int.tdiv (rd x8_4 x11_4) 10)))))).heap[gb320]? = some (.cells #[.int .i64 a0_0, .int .i64 a0_1] 24 (0, 0))) := ⟨by (with_reducible repeat (first | refine blk_drewN ?_ _ | refine blk_drew ?_ | refine blk_alloc ?_ _)); refine blk_far ?_ (by have h_ := Kd.R_ne HO_8.out BK320.out (by decide); intro e_; exact h_ (by rw [e_]; rfl)) _; (with_reducible repeat (first | refine blk_drewN ?_ _ | refine blk_drew ?_ | refine blk_alloc ?_ _)); exact BK320.out⟩
                  have n2_ : Aside0 ((w100.setCell ⟨go97, ((ji93) : Int).toNat, none⟩ (.int .i64 (wrap64 ((rd x8_4 (ji93)) + (wrap64 (Int.tdiv (rd x8_4 x11_4) 10)))))).heap[gb321]? = some (.cells #[.int .i64 a1_0, .int .i64 a1_1] 24 (0, 0))) := ⟨by (with_reducible repeat (first | refine blk_drewN ?_ _ | refine blk_drew ?_ | refine blk_alloc ?_ _)); refine blk_far ?_ (by have h_ := Kd.R_ne HO_8.out BK321.out (by decide); intro e_; exact h_ (by rw [e_]; rfl)) _; (with_reducible repeat (first | refine blk_drewN ?_ _ | refine blk_drew ?_ | refine blk_alloc ?_ _)); exact BK321.out⟩
                  have n3_ : Aside0 ((w100.setCell ⟨go97, ((ji93) : Int).toNat, none⟩ (.int .i64 (wrap64 ((rd x8_4 (ji93)) + (wrap64 (Int.tdiv (rd x8_4 x11_4) 10)))))).heap[gb322]? = some (.cells #[.int .i64 0, .int .i64 0] 24 (0, 0))) := ⟨by (with_reducible repeat (first | refine blk_drewN ?_ _ | refine blk_drew ?_ | refine blk_alloc ?_ _)); refine blk_far ?_ (by have h_ := Kd.R_ne HO_8.out BK322.out (by decide); intro e_; exact h_ (by rw [e_]; rfl)) _; (with_reducible repeat (first | refine blk_drewN ?_ _ | refine blk_drew ?_ | refine blk_alloc ?_ _)); exact BK322.out⟩
                  have n4_ : Aside0 (Below w.heap.size w (w100.setCell ⟨go97, ((ji93) : Int).toNat, none⟩ (.int .i64 (wrap64 ((rd x8_4 (ji93)) + (wrap64 (Int.tdiv (rd x8_4 x11_4) 10))))))) := ⟨by repeat (first | (with_reducible first | exact HB.out | apply below_alloc | apply pw_below_drewN | apply below_drew1 | refine below_set ?_ GB97.out | refine below_set ?_ GE320.out | refine below_set ?_ GE321.out | refine below_set ?_ GE322.out) | exact HB.out)⟩
                  (try clear HO_8)
                  (try clear BK320)
                  (try clear BK321)
                  (try clear BK322)
                  (try clear HB)
                  generalize (w100.setCell ⟨go97, ((ji93) : Int).toNat, none⟩ (.int .i64 (wrap64 ((rd x8_4 (ji93)) + (wrap64 (Int.tdiv (rd x8_4 x11_4) 10)))))) = w102 at n0_ n1_ n2_ n3_ n4_ ⊢
                  have HO_8 := n0_
                  have BK320 := n1_
                  have BK321 := n2_
                  have BK322 := n3_
                  have HB := n4_
                  clear n0_ n1_ n2_ n3_ n4_
                  have p351 : 0 ≤ (x11_4 : Int) := of_decide_eq_true (by first | (with_reducible assumption) | assumption)
                  have q351 : x11_4 < (y350.length : Int) := (by have h_ : (x11_4 : Int) < ((x8_4.length : Int) : Int) := of_decide_eq_true (by first | (with_reducible assumption) | assumption); first | (have e_ := (Kd.R_reads' HO_8.out).1; omega) | simpa only [Ny350.out, List.length_set] using h_)
                  have ql351 : ((x11_4 : Int) < ((x8_4.length : Int) : Int)) = True := eq_true (of_decide_eq_true (by first | (with_reducible assumption) | assumption))
                  obtain ⟨ad351, e351, hx351_0⟩ := Kd.at_int (Kd.R_reads' HO_8.out).2.2 x11_4 p351 q351
                  obtain rfl : (⟨go97, 0, none⟩ : Addr) = ad351 := (by injection e351)
                  (first | simp only [add_plain] at hx351_0 | simp only [add_at] at hx351_0 | simp only [Addr.add, Nat.zero_add] at hx351_0 | skip)
                  replace p351 := eq_true p351
                  replace q351 := eq_true q351
                  have p98 : 0 ≤ (x11_4 : Int) := of_decide_eq_true (by first | (with_reducible assumption) | assumption)
                  have q98 : (x11_4 : Int) < ((x8_4.length : Int) : Int) := of_decide_eq_true (by first | (with_reducible assumption) | assumption)
                  obtain ⟨hx98_0, hf98_0⟩ := Kd.R_celln 0 HO_8.out (x11_4 : Int) p98 q98
                  replace p98 := eq_true p98
                  replace q98 := eq_true q98
                  obtain ⟨hy103_, hz103_⟩ := Kd.R_celln 0 HO_8.out (x11_4 : Int) (of_decide_eq_true (by first | (with_reducible assumption) | assumption)) (of_decide_eq_true (by first | (with_reducible assumption) | assumption))
                  have HP103 := Kd.R_putg HO_8.out (x11_4 : Int) (Int.tmod (rd y350 x11_4) 10)
                  try go_wp2_with (first | ((with_reducible refine gate_store (t := 3) (p := 114) rfl ?_); refine store_event (t := 3) (p := 114) (v := ?vo_w104) (w1 := (w102.setCell ⟨go97, (x11_4 : Int).toNat, none⟩ (.int .i64 (Int.tmod (rd y350 x11_4) 10)))) ?hg ?ho ?hn ?hr ?_; (case ho => rfl); (case hg => rfl); (case hn => rfl); (case hr => first | (go_simp; done) | (go_simp; rfl)); intro w104 hw; have hg : w102.grownBy w104 (some go97) := (by rw [hw]; exact HP103.2); have hp_ : Kd.R (Kd.int .i64) 3 w104 w.heap.size (fun _ => True) (.slice (some ⟨go97, 0, none⟩) x8_4.length co99) y352 := (by rw [hw, Ny352.out]; exact HP103.1); clear HP103; have n0_ := Aside0.mk (hp_); have n1_ := Aside0.mk (blk_grown (g := gb320) (o := .cells #[.int .i64 a0_0, .int .i64 a0_1] 24 (0, 0)) BK320.out hg (Kd.R_ne HO_8.out BK320.out (by decide))); have n2_ := Aside0.mk (blk_grown (g := gb321) (o := .cells #[.int .i64 a1_0, .int .i64 a1_1] 24 (0, 0)) BK321.out hg (Kd.R_ne HO_8.out BK321.out (by decide))); have n3_ := Aside0.mk (blk_grown (g := gb322) (o := .cells #[.int .i64 0, .int .i64 0] 24 (0, 0)) BK322.out hg (Kd.R_ne HO_8.out BK322.out (by decide))); have n4_ := Aside0.mk ((by rw [hw]; exact below_set (HB.out) GB97.out : Below w.heap.size w w104)); clear HO_8; clear BK320; clear BK321; clear BK322; clear HB; have HO_8 := n0_; have BK320 := n1_; have BK321 := n2_; have BK322 := n3_; have HB := n4_; clear n0_ n1_ n2_ n3_ n4_; clear hg hw hp_))
                  go_roundg k4
                  case measure => have := HJ2.out; have := HJ23.out; have := HK3.out; have := HK4.out; omega
                  case rel => exact ⟨(y352), (ji93), (by first | rfl | (simp; done) | (simp only [← hji93] <;> (first | rfl | simp)) | (simp [*]; done)), H', ⟨by have := HJ2.out; have := HJ23.out; have := HK3.out; have := HK4.out; omega⟩, ⟨by (with_reducible repeat (first | apply Kd.R_alloc | apply Kd.R_drewN | apply Kd.R_drew)); exact HO_8.out⟩, ⟨by (with_reducible repeat (first | refine blk_drewN ?_ _ | refine blk_drew ?_ | refine blk_alloc ?_ _)); exact BK320.out⟩, ⟨by (with_reducible repeat (first | refine blk_drewN ?_ _ | refine blk_drew ?_ | refine blk_alloc ?_ _)); exact BK321.out⟩, ⟨by (with_reducible repeat (first | refine blk_drewN ?_ _ | refine blk_drew ?_ | refine blk_alloc ?_ _)); exact BK322.out⟩, ⟨by repeat (first | (with_reducible first | exact HB.out | apply below_alloc | apply pw_below_drewN | apply below_drew1 | refine below_set ?_ GE320.out | refine below_set ?_ GE321.out | refine below_set ?_ GE322.out) | exact HB.out)⟩⟩
                 ·rw [if_neg c96] at H
                  exact absurd H (by simp)
                ·rw [if_neg c95] at H
                 exact absurd H (by simp)
               ·rw [if_neg c94] at H
                exact absurd H (by simp)
              ·rw [if_neg c92] at H
               have c92b0 : decide ((wrap64 (x11_4 + 1)) < (x8_4.length : Int)) = false := decide_eq_false c92
               clear c92
               replace H := Option.bind_eq_some_iff.mp H
               obtain ⟨⟨t353, t354⟩, A1050, H⟩ := H
               replace H : ((stencilref02_made.f k4 t353 (decide ((wrap64 (t325 * t326)) < 0)) t354).bind fun bt355 => (some (bt355.1, bt355.2))) = some (r1, r2) := H
               have A105 := Aside0.mk A1050
               clear A1050
               replace H := Option.bind_eq_some_iff.mp H
               obtain ⟨⟨t355, t356⟩, A1060, H⟩ := H
               replace H : (some (t355, t356)) = some (r1, r2) := H
               have A106 := Aside0.mk A1060
               clear A1060
               simp only [Option.some.injEq, Prod.mk.injEq] at H
               obtain ⟨rfl, rfl⟩ := H
               obtain ⟨Ao107, co107, eo107⟩ := Kd.R_slice HO_8.out
               subst eo107
               go_wp2_with (first | ((with_reducible refine gate_callee (f := 82) rfl ?_); refine goesL_ (some 117) rfl rfl Tryz.func82 (by kernel_rfl) rfl #[.slice Ao107 x8_4.length co107, .int .i64 6] rfl (by (try simp only [List.map_toArray, List.map_cons, List.map_nil]); first | done | rfl | (simp only [List.length_drop, List.length_take]; rfl)) ?_; (with_reducible refine (stencilref02_whole.calls k4 _ _ x8_4 6 t353 t354 _ ?side1 ?side2 ?side3 A105.out).mono ?_); (case side1 => repeat (first | exact (Kd.R_reads' HO_8.out).2.2 | (with_reducible refine Kd.C_alloc ?_ _) | (with_reducible refine Kd.C_drewN ?_ _) | (with_reducible refine Kd.C_drew ?_))); (case side2 => exact (Kd.R_reads' HO_8.out).2.1); (case side3 => first | exact HLD | exact Laid.below HLD HB.out); rintro e w' ⟨rfl, ⟨nd, rfl⟩⟩; refine ⟨_, rfl, ?_⟩; (try (rw [drewN_self wr]; generalize hq_ : World.drewN wr _ = wr; replace HO_8 := zRq hq_ HO_8; replace BK320 := zbq hq_ BK320; replace BK321 := zbq hq_ BK321; replace BK322 := zbq hq_ BK322; replace HB := zHq hq_ HB; clear hq_; ))) | ((with_reducible refine gate_callee (f := 77) rfl ?_); refine goesL_ (some 123) rfl rfl Tryz.func77 (by kernel_rfl) rfl #[.int .u64 t353, .bool (decide ((wrap64 (t325 * t326)) < 0)), .bool t354] rfl (by (try simp only [List.map_toArray, List.map_cons, List.map_nil]); first | done | rfl | (simp only [List.length_drop, List.length_take]; rfl)) ?_; (with_reducible refine (stencilref02_made.calls k4 t353 (decide ((wrap64 (t325 * t326)) < 0)) t354 t355 t356 _ ?side1 A106.out).mono ?_); (case side1 => first | exact HLD | exact Laid.below HLD HB.out); rintro e w108 ⟨rfl, hb⟩; refine ⟨_, rfl, ?_⟩; replace HO_8 := zR HO_8 hb; replace BK320 := zb BK320 hb; replace BK321 := zb BK321 hb; replace BK322 := zb BK322 hb; replace HB := zs HB hb; (try clear hb); (try clear hb2); (try clear hk); (try clear hi); have hnb109 := NB322_320.out; have hnc109 := NB320_322.out; have hnb110 := NB322_321.out; have hnc110 := NB321_322.out; have hcz111_0 : w108.cell? ⟨gb322, 0, none⟩ = some (.int .i64 0) := (blk_cell BK322.out 0).trans rfl; have hcz111_1 : w108.cell? ⟨gb322, 1, none⟩ = some (.int .i64 0) := (blk_cell BK322.out 1).trans rfl; have hfz111_0 := blk_frozen BK322.out 0; have hfz111_1 := blk_frozen BK322.out 1))
               refine bodyPost_ret (results_cell_row rfl _ _ gb322 24 #[.int .i64 t355, .int .i64 t356] (0, 0) _ rfl (by (with_reducible repeat (first | refine blk_drewN ?_ _ | refine blk_drew ?_ | refine blk_alloc ?_ _)); refine blk_put (cs := #[.int .i64 t355, .int .i64 0]) ?_ 1 _ rfl; (with_reducible repeat (first | refine blk_drewN ?_ _ | refine blk_drew ?_ | refine blk_alloc ?_ _)); refine blk_put (cs := #[.int .i64 0, .int .i64 0]) ?_ 0 _ rfl; (with_reducible repeat (first | refine blk_drewN ?_ _ | refine blk_drew ?_ | refine blk_alloc ?_ _)); exact BK322.out) Tryz.underlying24 rfl (by kernel_rfl)) rfl ?_
               exact ⟨by first | rfl | (simp [errW_none, errW_some] <;> rfl) | (simp only [← hji68]; first | rfl | (simp [errW_none, errW_some] <;> rfl)) | (simp [*, errW_none, errW_some] <;> rfl), by repeat (first | (with_reducible first | exact HB.out | apply below_alloc | apply pw_below_drewN | apply below_drew1 | refine below_set ?_ GE320.out | refine below_set ?_ GE321.out | refine below_set ?_ GE322.out) | exact HB.out)⟩
        ·rw [if_neg c70] at H
         exact absurd H (by simp)
       ·rw [if_neg c69] at H
        exact absurd H (by simp)

end Go.Proofs.YtfbmojnndbbojaaGreatDoor.Print

-- THIN
