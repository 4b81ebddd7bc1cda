-- Laid by xprint.py (ours), out of the seat's translation; Lean checks it.
import Derived.Test.YtfbmojnndbbojaaGreatDoorWInv
import Derived.Test.YtfbmojnndbbojaaGreatDoorPrint0
import Derived.Test.YtfbmojnndbbojaaGreatDoorPrinte1
import Derived.Test.YtfbmojnndbbojaaGreatDoorPrintf47
import Derived.Test.YtfbmojnndbbojaaGreatDoorPrintf21
import Derived.Test.YtfbmojnndbbojaaGreatDoorPrintf22
import Derived.Test.YtfbmojnndbbojaaGreatDoorPrintf33
import Derived.Test.YtfbmojnndbbojaaGreatDoorPrintf18
import Derived.Test.YtfbmojnndbbojaaGreatDoorPrintf26
import Derived.Test.YtfbmojnndbbojaaGreatDoorPrintf28
import Derived.Test.YtfbmojnndbbojaaGreatDoorPrintf29
import Derived.Test.YtfbmojnndbbojaaGreatDoorPrintf30
namespace Go.Proofs.YtfbmojnndbbojaaGreatDoor.Print
open Go.RowKit Go.Proofs.YtfbmojnndbbojaaGreatDoorW.PrintWords Go.Proofs.YtfbmojnndbbojaaGreatDoorW.PrintLast Go.Proofs.YtfbmojnndbbojaaGreatDoorW.PrintMore
attribute [local go_sem] max2_int min2_int max_two min_two max_three min_three max_four min_four   -- for this text's walks alone
open Go.Proofs.YtfbmojnndbbojaaGreatDoor.Plain
set_option linter.unusedVariables false
set_option linter.unusedSimpArgs false

attribute [local go_sem high] eqA24
/-! ### stencillaw02_XnumReckons: function 5 -/
def stencillaw02_XnumReckons.f (k : Nat) (a0_0 : Int) (a0_1 : Int) (a1_0 : Int) (a1_1 : Int) : Option (Bool) := (xnum_Add.f k a0_0 a0_1 a1_0 a1_1).bind fun bt396 => ((xnum_Sub.f k a0_0 a0_1 a1_0 a1_1).bind fun bt398 => ((xnum_Mul.f k a0_0 a0_1 a1_0 a1_1).bind fun bt400 => ((xnum_Div.f k a0_0 a0_1 a1_0 a1_1).bind fun bt402 => ((xnum_Mod.f k a0_0 a0_1 a1_0 a1_1).bind fun bt404 => ((stencillaw02_right.f a0_0 a0_1 a1_0 a1_1).bind fun t411 => (if t411 = true then ((stencillaw02_live.f k).bind fun t413 => (if t413 = true then ((stencilref02_Add.f k a0_0 a0_1 a1_0 a1_1).bind fun bt414 => (if (bt396.1 == bt414.1 && (bt396.2 == bt414.2)) = true then ((stencilref02_Sub.f k a0_0 a0_1 a1_0 a1_1).bind fun bt416 => (if (bt398.1 == bt416.1 && (bt398.2 == bt416.2)) = true then ((stencilref02_Mul.f k a0_0 a0_1 a1_0 a1_1).bind fun bt418 => (if (bt400.1 == bt418.1 && (bt400.2 == bt418.2)) = true then ((stencilref02_Div.f k a0_0 a0_1 a1_0 a1_1).bind fun bt420 => (if (bt402.1 == bt420.1 && (bt402.2 == bt420.2)) = true then ((stencilref02_Mod.f k a0_0 a0_1 a1_0 a1_1).bind fun bt422 => (if (bt404.1 == bt422.1 && (bt404.2 == bt422.2)) = true then ((xnum_Neg.f k a0_0 a0_1).bind fun bt424 => ((stencilref02_Neg.f a0_0 a0_1).bind fun bt426 => (some (bt424.1 == bt426.1 && (bt424.2 == bt426.2))))) else (none))) else (none))) else (none))) else (none))) else (none))) else (none))) else ((stencillaw02_live.f k).bind fun t412 => (some t412))))))))
theorem stencillaw02_XnumReckons.mono : ∀ a0 a1 a2 a3 k, LeO (stencillaw02_XnumReckons.f k a0 a1 a2 a3) (stencillaw02_XnumReckons.f (k + 1) a0 a1 a2 a3) := by
 intro a0 a1 a2 a3 k
 unfold stencillaw02_XnumReckons.f
 repeat' first
   | (with_reducible exact stencillaw02_live.mono _)
   | (with_reducible exact stencilref02_Add.mono _ _ _ _ _)
   | (with_reducible exact stencilref02_Div.mono _ _ _ _ _)
   | (with_reducible exact stencilref02_Mod.mono _ _ _ _ _)
   | (with_reducible exact stencilref02_Mul.mono _ _ _ _ _)
   | (with_reducible exact stencilref02_Sub.mono _ _ _ _ _)
   | (with_reducible exact xnum_Add.mono _ _ _ _ _)
   | (with_reducible exact xnum_Div.mono _ _ _ _ _)
   | (with_reducible exact xnum_Mod.mono _ _ _ _ _)
   | (with_reducible exact xnum_Mul.mono _ _ _ _ _)
   | (with_reducible exact xnum_Neg.mono _ _ _)
   | (with_reducible exact xnum_Sub.mono _ _ _ _ _)
   | (with_reducible exact LeO.refl _)
   | (with_reducible exact LeO.none _)
   | (with_reducible refine LeO.ite ?_ ?_)
   | (with_reducible refine LeO.bind ?_ (fun _ => ?_))
   | exact stencillaw02_live.mono _
   | exact stencilref02_Add.mono _ _ _ _ _
   | exact stencilref02_Div.mono _ _ _ _ _
   | exact stencilref02_Mod.mono _ _ _ _ _
   | exact stencilref02_Mul.mono _ _ _ _ _
   | exact stencilref02_Sub.mono _ _ _ _ _
   | exact xnum_Add.mono _ _ _ _ _
   | exact xnum_Div.mono _ _ _ _ _
   | exact xnum_Mod.mono _ _ _ _ _
   | exact xnum_Mul.mono _ _ _ _ _
   | exact xnum_Neg.mono _ _ _
   | exact xnum_Sub.mono _ _ _ _ _
   | exact LeO.none _
   | refine LeO.ite ?_ ?_
   | refine LeO.bind ?_ (fun _ => ?_)
def stencillaw02_XnumReckons.T1 : Bool × List (List Nat × List Nat) := (true, [([], []), ([], []), ([0, 1], [0, 1]), ([], []), ([], []), ([3, 4, 2], [3, 4]), ([], []), ([], []), ([6, 7, 5], [6, 7]), ([], []), ([], []), ([9, 10, 8], [9, 10]), ([], []), ([], []), ([12, 13, 11], [12, 13]), ([], []), ([], []), ([], []), ([], []), ([], []), ([15, 2, 14, 0, 1, 2, 15, 16, 17, 18, 19], [2, 15]), ([16, 5, 20, 0, 1, 2, 3, 4, 5, 15, 16, 17, 18, 19, 20], [5, 16]), ([17, 8, 21, 0, 1, 2, 3, 4, 5, 6, 7, 8, 15, 16, 17, 18, 19, 20, 21], [8, 17]), ([18, 11, 22, 0, 1, 2, 3, 4, 5, 6, 7, 8, 9, 10, 11, 15, 16, 17, 18, 19, 20, 21, 22], [11, 18]), ([19, 14, 23, 0, 1, 2, 3, 4, 5, 6, 7, 8, 9, 10, 11, 12, 13, 14, 15, 16, 17, 18, 19, 20, 21, 22, 23], [14, 19])])
def stencillaw02_XnumReckons.B1 : List Nat := [0, 0, 3, 0, 0, 31, 0, 0, 255, 0, 0, 2047, 0, 0, 16383, 0, 0, 0, 0, 0, 1048575, 2097151, 4194303, 8388607, 16777215]
theorem stencillaw02_XnumReckons.tab1 : rtab .any (opsOf Tryz.f5 1) = stencillaw02_XnumReckons.T1 := by kernel_rfl
theorem stencillaw02_XnumReckons.bits1 : waitsOk stencillaw02_XnumReckons.T1.2 stencillaw02_XnumReckons.B1 = true := by kernel_rfl
def stencillaw02_XnumReckons.T4 : Bool × List (List Nat × List Nat) := (true, [([], []), ([0, 0], [0]), ([1], [1]), ([1], [1]), ([1], [1]), ([3, 4, 1, 1], [1, 3, 4]), ([2, 5, 1], [1, 2, 5]), ([1, 6], [1, 6]), ([7, 5], [7]), ([8], [8]), ([8], [8]), ([8], [8]), ([10, 11, 8, 8], [8, 10, 11]), ([9, 12, 8], [8, 9, 12]), ([8, 13], [8, 13]), ([14, 12], [14]), ([15], [15]), ([15], [15]), ([15], [15]), ([17, 18, 15, 15], [15, 17, 18]), ([16, 19, 15], [15, 16, 19]), ([15, 20], [15, 20]), ([21, 19], [21]), ([22], [22]), ([22], [22]), ([22], [22]), ([24, 25, 22, 22], [22, 24, 25]), ([23, 26, 22], [22, 23, 26]), ([22, 27], [22, 27]), ([28, 26], [28]), ([29], [29]), ([29], [29]), ([29], [29]), ([31, 32, 29, 29], [29, 31, 32]), ([30, 33, 29], [29, 30, 33]), ([29, 34], [29, 34]), ([35, 33], [35]), ([36], [36]), ([37, 36, 36], [36, 37]), ([36], [36]), ([39, 38, 36], [36, 39]), ([38, 40, 36], [36, 38, 40]), ([36, 41], [36, 41]), ([42, 40, 0, 1, 2, 3, 4, 5, 6, 7, 8, 9, 10, 11, 12, 13, 14, 15, 16, 17, 18, 19, 20, 21, 22, 23, 24, 25, 26, 27, 28, 29, 30, 31, 32, 33, 34, 35, 36, 37, 38, 39, 40, 41, 42], [42])])
def stencillaw02_XnumReckons.B4 : List Nat := [0, 1, 3, 3, 3, 27, 63, 127, 255, 511, 511, 511, 3583, 8191, 16383, 32767, 65535, 65535, 65535, 458751, 1048575, 2097151, 4194303, 8388607, 8388607, 8388607, 58720255, 134217727, 268435455, 536870911, 1073741823, 1073741823, 1073741823, 7516192767, 17179869183, 34359738367, 68719476735, 137438953471, 274877906943, 137438953471, 1099511627775, 2199023255551, 4398046511103, 8796093022207]
theorem stencillaw02_XnumReckons.tab4 : rtab .any (opsOf Tryz.f5 4) = stencillaw02_XnumReckons.T4 := by kernel_rfl
theorem stencillaw02_XnumReckons.bits4 : waitsOk stencillaw02_XnumReckons.T4.2 stencillaw02_XnumReckons.B4 = true := by kernel_rfl
set_option maxHeartbeats 8000000 in
set_option maxRecDepth 100000 in
theorem stencillaw02_XnumReckons.calls (k : Nat) (a0_0 : Int) (a0_1 : Int) (a1_0 : Int) (a1_1 : Int) (r : Bool) (w : World) (HLD : Laid w) (h : stencillaw02_XnumReckons.f k a0_0 a0_1 a1_0 a1_1 = some r) :
  Calls Tryz.prog 5 #[.agg #[.int .i64 a0_0, .int .i64 a0_1], .agg #[.int .i64 a1_0, .int .i64 a1_1]] w fun e w' => e = .returned (.bool r) ∧ Below w.heap.size w w' := by
 have hu24 := Tryz.underlying24
 have HB := Aside0.mk (Below.refl w.heap.size w)
 have H : ((xnum_Add.f k a0_0 a0_1 a1_0 a1_1).bind fun bt396 => ((xnum_Sub.f k a0_0 a0_1 a1_0 a1_1).bind fun bt398 => ((xnum_Mul.f k a0_0 a0_1 a1_0 a1_1).bind fun bt400 => ((xnum_Div.f k a0_0 a0_1 a1_0 a1_1).bind fun bt402 => ((xnum_Mod.f k a0_0 a0_1 a1_0 a1_1).bind fun bt404 => ((stencillaw02_right.f a0_0 a0_1 a1_0 a1_1).bind fun t411 => (if t411 = true then ((stencillaw02_live.f k).bind fun t413 => (if t413 = true then ((stencilref02_Add.f k a0_0 a0_1 a1_0 a1_1).bind fun bt414 => (if (bt396.1 == bt414.1 && (bt396.2 == bt414.2)) = true then ((stencilref02_Sub.f k a0_0 a0_1 a1_0 a1_1).bind fun bt416 => (if (bt398.1 == bt416.1 && (bt398.2 == bt416.2)) = true then ((stencilref02_Mul.f k a0_0 a0_1 a1_0 a1_1).bind fun bt418 => (if (bt400.1 == bt418.1 && (bt400.2 == bt418.2)) = true then ((stencilref02_Div.f k a0_0 a0_1 a1_0 a1_1).bind fun bt420 => (if (bt402.1 == bt420.1 && (bt402.2 == bt420.2)) = true then ((stencilref02_Mod.f k a0_0 a0_1 a1_0 a1_1).bind fun bt422 => (if (bt404.1 == bt422.1 && (bt404.2 == bt422.2)) = true then ((xnum_Neg.f k a0_0 a0_1).bind fun bt424 => ((stencilref02_Neg.f a0_0 a0_1).bind fun bt426 => (some (bt424.1 == bt426.1 && (bt424.2 == bt426.2))))) else (none))) else (none))) else (none))) else (none))) else (none))) else (none))) else ((stencillaw02_live.f k).bind fun t412 => (some t412))))))))) = some r := h
 clear h
 replace H := Option.bind_eq_some_iff.mp H
 obtain ⟨⟨t396, t397⟩, A30, H⟩ := H
 replace H : ((xnum_Sub.f k a0_0 a0_1 a1_0 a1_1).bind fun bt398 => ((xnum_Mul.f k a0_0 a0_1 a1_0 a1_1).bind fun bt400 => ((xnum_Div.f k a0_0 a0_1 a1_0 a1_1).bind fun bt402 => ((xnum_Mod.f k a0_0 a0_1 a1_0 a1_1).bind fun bt404 => ((stencillaw02_right.f a0_0 a0_1 a1_0 a1_1).bind fun t411 => (if t411 = true then ((stencillaw02_live.f k).bind fun t413 => (if t413 = true then ((stencilref02_Add.f k a0_0 a0_1 a1_0 a1_1).bind fun bt414 => (if (t396 == bt414.1 && (t397 == bt414.2)) = true then ((stencilref02_Sub.f k a0_0 a0_1 a1_0 a1_1).bind fun bt416 => (if (bt398.1 == bt416.1 && (bt398.2 == bt416.2)) = true then ((stencilref02_Mul.f k a0_0 a0_1 a1_0 a1_1).bind fun bt418 => (if (bt400.1 == bt418.1 && (bt400.2 == bt418.2)) = true then ((stencilref02_Div.f k a0_0 a0_1 a1_0 a1_1).bind fun bt420 => (if (bt402.1 == bt420.1 && (bt402.2 == bt420.2)) = true then ((stencilref02_Mod.f k a0_0 a0_1 a1_0 a1_1).bind fun bt422 => (if (bt404.1 == bt422.1 && (bt404.2 == bt422.2)) = true then ((xnum_Neg.f k a0_0 a0_1).bind fun bt424 => ((stencilref02_Neg.f a0_0 a0_1).bind fun bt426 => (some (bt424.1 == bt426.1 && (bt424.2 == bt426.2))))) else (none))) else (none))) else (none))) else (none))) else (none))) else (none))) else ((stencillaw02_live.f k).bind fun t412 => (some t412)))))))) = some r := H
 have A3 := Aside0.mk A30
 clear A30
 replace H := Option.bind_eq_some_iff.mp H
 obtain ⟨⟨t398, t399⟩, A40, H⟩ := H
 replace H : ((xnum_Mul.f k a0_0 a0_1 a1_0 a1_1).bind fun bt400 => ((xnum_Div.f k a0_0 a0_1 a1_0 a1_1).bind fun bt402 => ((xnum_Mod.f k a0_0 a0_1 a1_0 a1_1).bind fun bt404 => ((stencillaw02_right.f a0_0 a0_1 a1_0 a1_1).bind fun t411 => (if t411 = true then ((stencillaw02_live.f k).bind fun t413 => (if t413 = true then ((stencilref02_Add.f k a0_0 a0_1 a1_0 a1_1).bind fun bt414 => (if (t396 == bt414.1 && (t397 == bt414.2)) = true then ((stencilref02_Sub.f k a0_0 a0_1 a1_0 a1_1).bind fun bt416 => (if (t398 == bt416.1 && (t399 == bt416.2)) = true then ((stencilref02_Mul.f k a0_0 a0_1 a1_0 a1_1).bind fun bt418 => (if (bt400.1 == bt418.1 && (bt400.2 == bt418.2)) = true then ((stencilref02_Div.f k a0_0 a0_1 a1_0 a1_1).bind fun bt420 => (if (bt402.1 == bt420.1 && (bt402.2 == bt420.2)) = true then ((stencilref02_Mod.f k a0_0 a0_1 a1_0 a1_1).bind fun bt422 => (if (bt404.1 == bt422.1 && (bt404.2 == bt422.2)) = true then ((xnum_Neg.f k a0_0 a0_1).bind fun bt424 => ((stencilref02_Neg.f a0_0 a0_1).bind fun bt426 => (some (bt424.1 == bt426.1 && (bt424.2 == bt426.2))))) else (none))) else (none))) else (none))) else (none))) else (none))) else (none))) else ((stencillaw02_live.f k).bind fun t412 => (some t412))))))) = some r := H
 have A4 := Aside0.mk A40
 clear A40
 replace H := Option.bind_eq_some_iff.mp H
 obtain ⟨⟨t400, t401⟩, A50, H⟩ := H
 replace H : ((xnum_Div.f k a0_0 a0_1 a1_0 a1_1).bind fun bt402 => ((xnum_Mod.f k a0_0 a0_1 a1_0 a1_1).bind fun bt404 => ((stencillaw02_right.f a0_0 a0_1 a1_0 a1_1).bind fun t411 => (if t411 = true then ((stencillaw02_live.f k).bind fun t413 => (if t413 = true then ((stencilref02_Add.f k a0_0 a0_1 a1_0 a1_1).bind fun bt414 => (if (t396 == bt414.1 && (t397 == bt414.2)) = true then ((stencilref02_Sub.f k a0_0 a0_1 a1_0 a1_1).bind fun bt416 => (if (t398 == bt416.1 && (t399 == bt416.2)) = true then ((stencilref02_Mul.f k a0_0 a0_1 a1_0 a1_1).bind fun bt418 => (if (t400 == bt418.1 && (t401 == bt418.2)) = true then ((stencilref02_Div.f k a0_0 a0_1 a1_0 a1_1).bind fun bt420 => (if (bt402.1 == bt420.1 && (bt402.2 == bt420.2)) = true then ((stencilref02_Mod.f k a0_0 a0_1 a1_0 a1_1).bind fun bt422 => (if (bt404.1 == bt422.1 && (bt404.2 == bt422.2)) = true then ((xnum_Neg.f k a0_0 a0_1).bind fun bt424 => ((stencilref02_Neg.f a0_0 a0_1).bind fun bt426 => (some (bt424.1 == bt426.1 && (bt424.2 == bt426.2))))) else (none))) else (none))) else (none))) else (none))) else (none))) else (none))) else ((stencillaw02_live.f k).bind fun t412 => (some t412)))))) = some r := H
 have A5 := Aside0.mk A50
 clear A50
 replace H := Option.bind_eq_some_iff.mp H
 obtain ⟨⟨t402, t403⟩, A60, H⟩ := H
 replace H : ((xnum_Mod.f k a0_0 a0_1 a1_0 a1_1).bind fun bt404 => ((stencillaw02_right.f a0_0 a0_1 a1_0 a1_1).bind fun t411 => (if t411 = true then ((stencillaw02_live.f k).bind fun t413 => (if t413 = true then ((stencilref02_Add.f k a0_0 a0_1 a1_0 a1_1).bind fun bt414 => (if (t396 == bt414.1 && (t397 == bt414.2)) = true then ((stencilref02_Sub.f k a0_0 a0_1 a1_0 a1_1).bind fun bt416 => (if (t398 == bt416.1 && (t399 == bt416.2)) = true then ((stencilref02_Mul.f k a0_0 a0_1 a1_0 a1_1).bind fun bt418 => (if (t400 == bt418.1 && (t401 == bt418.2)) = true then ((stencilref02_Div.f k a0_0 a0_1 a1_0 a1_1).bind fun bt420 => (if (t402 == bt420.1 && (t403 == bt420.2)) = true then ((stencilref02_Mod.f k a0_0 a0_1 a1_0 a1_1).bind fun bt422 => (if (bt404.1 == bt422.1 && (bt404.2 == bt422.2)) = true then ((xnum_Neg.f k a0_0 a0_1).bind fun bt424 => ((stencilref02_Neg.f a0_0 a0_1).bind fun bt426 => (some (bt424.1 == bt426.1 && (bt424.2 == bt426.2))))) else (none))) else (none))) else (none))) else (none))) else (none))) else (none))) else ((stencillaw02_live.f k).bind fun t412 => (some t412))))) = some r := H
 have A6 := Aside0.mk A60
 clear A60
 replace H := Option.bind_eq_some_iff.mp H
 obtain ⟨⟨t404, t405⟩, A70, H⟩ := H
 replace H : ((stencillaw02_right.f a0_0 a0_1 a1_0 a1_1).bind fun t411 => (if t411 = true then ((stencillaw02_live.f k).bind fun t413 => (if t413 = true then ((stencilref02_Add.f k a0_0 a0_1 a1_0 a1_1).bind fun bt414 => (if (t396 == bt414.1 && (t397 == bt414.2)) = true then ((stencilref02_Sub.f k a0_0 a0_1 a1_0 a1_1).bind fun bt416 => (if (t398 == bt416.1 && (t399 == bt416.2)) = true then ((stencilref02_Mul.f k a0_0 a0_1 a1_0 a1_1).bind fun bt418 => (if (t400 == bt418.1 && (t401 == bt418.2)) = true then ((stencilref02_Div.f k a0_0 a0_1 a1_0 a1_1).bind fun bt420 => (if (t402 == bt420.1 && (t403 == bt420.2)) = true then ((stencilref02_Mod.f k a0_0 a0_1 a1_0 a1_1).bind fun bt422 => (if (t404 == bt422.1 && (t405 == bt422.2)) = true then ((xnum_Neg.f k a0_0 a0_1).bind fun bt424 => ((stencilref02_Neg.f a0_0 a0_1).bind fun bt426 => (some (bt424.1 == bt426.1 && (bt424.2 == bt426.2))))) else (none))) else (none))) else (none))) else (none))) else (none))) else (none))) else ((stencillaw02_live.f k).bind fun t412 => (some t412)))) = some r := H
 have A7 := Aside0.mk A70
 clear A70
 replace H := Option.bind_eq_some_iff.mp H
 obtain ⟨t411, A80, H⟩ := H
 replace H : (if t411 = true then ((stencillaw02_live.f k).bind fun t413 => (if t413 = true then ((stencilref02_Add.f k a0_0 a0_1 a1_0 a1_1).bind fun bt414 => (if (t396 == bt414.1 && (t397 == bt414.2)) = true then ((stencilref02_Sub.f k a0_0 a0_1 a1_0 a1_1).bind fun bt416 => (if (t398 == bt416.1 && (t399 == bt416.2)) = true then ((stencilref02_Mul.f k a0_0 a0_1 a1_0 a1_1).bind fun bt418 => (if (t400 == bt418.1 && (t401 == bt418.2)) = true then ((stencilref02_Div.f k a0_0 a0_1 a1_0 a1_1).bind fun bt420 => (if (t402 == bt420.1 && (t403 == bt420.2)) = true then ((stencilref02_Mod.f k a0_0 a0_1 a1_0 a1_1).bind fun bt422 => (if (t404 == bt422.1 && (t405 == bt422.2)) = true then ((xnum_Neg.f k a0_0 a0_1).bind fun bt424 => ((stencilref02_Neg.f a0_0 a0_1).bind fun bt426 => (some (bt424.1 == bt426.1 && (bt424.2 == bt426.2))))) else (none))) else (none))) else (none))) else (none))) else (none))) else (none))) else ((stencillaw02_live.f k).bind fun t412 => (some t412))) = some r := H
 have A8 := Aside0.mk A80
 clear A80
 have HZ_ := Aside0.mk H
 clear H
 go_enter Tryz.func5, Tryz.ntmps5
 try go_wp2_with (first | ((with_reducible refine gate_dst (N := 2) rfl ?_); refine box_event ?hg (N := 2) ?hd (cs := #[.int .i64 a0_0, .int .i64 a0_1]) (t := 24) ?hr ?_; (case hd => rfl); (case hg => rfl); (case hr => first | (go_simp; done) | (go_simp; rfl)); intro gb394 hg w24 hbox hb; have GW394 := Aside0.mk ((by rw [hg]; exact (below_size HB.out) : w.heap.size ≤ gb394)); have GE394 := Aside0.mk ((by rw [hg]; exact (below_size HB.out) : w.heap.size ≤ gb394)); replace HB := zs HB hb; have BK394 := Aside0.mk (hbox); clear hb hbox hg) | ((with_reducible refine gate_dst (N := 3) rfl ?_); refine box_event ?hg (N := 3) ?hd (cs := #[.int .i64 a1_0, .int .i64 a1_1]) (t := 24) ?hr ?_; (case hd => rfl); (case hg => rfl); (case hr => first | (go_simp; done) | (go_simp; rfl)); intro gb395 hg w25 hbox hb; have GW395 := Aside0.mk ((by rw [hg]; exact (below_size HB.out) : w.heap.size ≤ gb395)); have GE395 := Aside0.mk ((by rw [hg]; exact (below_size HB.out) : w.heap.size ≤ gb395)); have NB394_395 := Aside0.mk ((by rw [hg]; exact Nat.ne_of_lt (blk_lt (g := gb394) (o := .cells #[.int .i64 a0_0, .int .i64 a0_1] 24 (0, 0)) BK394.out) : gb394 ≠ gb395)); have NB395_394 := Aside0.mk ((by rw [hg]; exact Nat.ne_of_gt (blk_lt (g := gb394) (o := .cells #[.int .i64 a0_0, .int .i64 a0_1] 24 (0, 0)) BK394.out) : gb395 ≠ gb394)); replace BK394 := zb BK394 hb; replace HB := zs HB hb; have BK395 := Aside0.mk (hbox); clear hb hbox hg))
 replace BK394 := Aside0.mk (blk_drew BK394.out)
 replace BK395 := Aside0.mk (blk_drew BK395.out)
 replace HB := Aside0.mk (below_drew1 HB.out)
 refine start_ (n := 25) (S := fun w' => True) (ds := []) #[false, false, false, false, false, false, false, false, false, false, false, false, false, false, false, false, false, false, false, false, false, false, false, false, false] (by kernel_rfl) rfl rfl trivial (fun hHeld => ?_); refine with_tabW stencillaw02_XnumReckons.tab1 stencillaw02_XnumReckons.bits1 (fun HT_ HW_ => ?_)
 generalize w25.drew = w26 at BK394 BK395 HB hHeld ⊢
 refine inv_at [0, 1, 2, 3, 4, 5, 6, 7, 8, 9, 10, 11, 12, 13, 14, 15, 16, 17, 18, 19, 20, 21, 22, 23, 24] (fun a0_ b a w' => ∃ (gb406 : Nat) (gb407 : Nat) (gb408 : Nat) (gb409 : Nat) (gb410 : Nat) (m15_ : Value) (m16_ : Value) (m17_ : Value) (m18_ : Value) (m19_ : Value), a = putSel a0_ b [(0, 10, .agg #[.int .i64 a0_0, .int .i64 a0_1]), (1, 11, .agg #[.int .i64 a1_0, .int .i64 a1_1]), (2, 12, .agg #[.int .i64 t396, .int .i64 t397]), (3, 13, .agg #[.int .i64 a0_0, .int .i64 a0_1]), (4, 14, .agg #[.int .i64 a1_0, .int .i64 a1_1]), (5, 15, .agg #[.int .i64 t398, .int .i64 t399]), (6, 16, .agg #[.int .i64 a0_0, .int .i64 a0_1]), (7, 17, .agg #[.int .i64 a1_0, .int .i64 a1_1]), (8, 18, .agg #[.int .i64 t400, .int .i64 t401]), (9, 19, .agg #[.int .i64 a0_0, .int .i64 a0_1]), (10, 20, .agg #[.int .i64 a1_0, .int .i64 a1_1]), (11, 21, .agg #[.int .i64 t402, .int .i64 t403]), (12, 22, .agg #[.int .i64 a0_0, .int .i64 a0_1]), (13, 23, .agg #[.int .i64 a1_0, .int .i64 a1_1]), (14, 24, .agg #[.int .i64 t404, .int .i64 t405]), (15, 5, m15_), (16, 6, m16_), (17, 7, m17_), (18, 8, m18_), (19, 9, m19_)] ∧ (w'.heap[gb394]? = some (.cells #[.int .i64 a0_0, .int .i64 a0_1] 24 (0, 0))) ∧ (w'.heap[gb395]? = some (.cells #[.int .i64 a1_0, .int .i64 a1_1] 24 (0, 0))) ∧ (Below w.heap.size w w') ∧ (b 15 = true → b 16 = true → gb407 ≠ gb406) ∧ (b 15 = true → b 16 = true → gb406 ≠ gb407) ∧ (b 15 = true → b 17 = true → gb408 ≠ gb406) ∧ (b 15 = true → b 17 = true → gb406 ≠ gb408) ∧ (b 15 = true → b 18 = true → gb409 ≠ gb406) ∧ (b 15 = true → b 18 = true → gb406 ≠ gb409) ∧ (b 15 = true → b 19 = true → gb410 ≠ gb406) ∧ (b 15 = true → b 19 = true → gb406 ≠ gb410) ∧ (b 16 = true → b 17 = true → gb408 ≠ gb407) ∧ (b 16 = true → b 17 = true → gb407 ≠ gb408) ∧ (b 16 = true → b 18 = true → gb409 ≠ gb407) ∧ (b 16 = true → b 18 = true → gb407 ≠ gb409) ∧ (b 16 = true → b 19 = true → gb410 ≠ gb407) ∧ (b 16 = true → b 19 = true → gb407 ≠ gb410) ∧ (b 17 = true → b 18 = true → gb409 ≠ gb408) ∧ (b 17 = true → b 18 = true → gb408 ≠ gb409) ∧ (b 17 = true → b 19 = true → gb410 ≠ gb408) ∧ (b 17 = true → b 19 = true → gb408 ≠ gb410) ∧ (b 18 = true → b 19 = true → gb410 ≠ gb409) ∧ (b 18 = true → b 19 = true → gb409 ≠ gb410) ∧ (b 15 = true → b 20 = false → w'.heap[gb406]? = some (.cells #[.int .i64 0, .int .i64 0] 24 (0, 0))) ∧ (b 15 = true → w.heap.size ≤ gb406) ∧ (b 15 = true → w.heap.size ≤ gb406) ∧ (b 15 = true → gb394 ≠ gb406) ∧ (b 15 = true → gb406 ≠ gb394) ∧ (b 15 = true → gb395 ≠ gb406) ∧ (b 15 = true → gb406 ≠ gb395) ∧ (b 16 = true → b 21 = false → w'.heap[gb407]? = some (.cells #[.int .i64 0, .int .i64 0] 24 (0, 0))) ∧ (b 16 = true → w.heap.size ≤ gb407) ∧ (b 16 = true → w.heap.size ≤ gb407) ∧ (b 16 = true → gb394 ≠ gb407) ∧ (b 16 = true → gb407 ≠ gb394) ∧ (b 16 = true → gb395 ≠ gb407) ∧ (b 16 = true → gb407 ≠ gb395) ∧ (b 17 = true → b 22 = false → w'.heap[gb408]? = some (.cells #[.int .i64 0, .int .i64 0] 24 (0, 0))) ∧ (b 17 = true → w.heap.size ≤ gb408) ∧ (b 17 = true → w.heap.size ≤ gb408) ∧ (b 17 = true → gb394 ≠ gb408) ∧ (b 17 = true → gb408 ≠ gb394) ∧ (b 17 = true → gb395 ≠ gb408) ∧ (b 17 = true → gb408 ≠ gb395) ∧ (b 18 = true → b 23 = false → w'.heap[gb409]? = some (.cells #[.int .i64 0, .int .i64 0] 24 (0, 0))) ∧ (b 18 = true → w.heap.size ≤ gb409) ∧ (b 18 = true → w.heap.size ≤ gb409) ∧ (b 18 = true → gb394 ≠ gb409) ∧ (b 18 = true → gb409 ≠ gb394) ∧ (b 18 = true → gb395 ≠ gb409) ∧ (b 18 = true → gb409 ≠ gb395) ∧ (b 19 = true → b 24 = false → w'.heap[gb410]? = some (.cells #[.int .i64 0, .int .i64 0] 24 (0, 0))) ∧ (b 19 = true → w.heap.size ≤ gb410) ∧ (b 19 = true → w.heap.size ≤ gb410) ∧ (b 19 = true → gb394 ≠ gb410) ∧ (b 19 = true → gb410 ≠ gb394) ∧ (b 19 = true → gb395 ≠ gb410) ∧ (b 19 = true → gb410 ≠ gb395) ∧ (b 20 = true → w'.heap[gb406]? = some (.cells #[.int .i64 t396, .int .i64 t397] 24 (0, 0))) ∧ (b 21 = true → w'.heap[gb407]? = some (.cells #[.int .i64 t398, .int .i64 t399] 24 (0, 0))) ∧ (b 22 = true → w'.heap[gb408]? = some (.cells #[.int .i64 t400, .int .i64 t401] 24 (0, 0))) ∧ (b 23 = true → w'.heap[gb409]? = some (.cells #[.int .i64 t402, .int .i64 t403] 24 (0, 0))) ∧ (b 24 = true → w'.heap[gb410]? = some (.cells #[.int .i64 t404, .int .i64 t405] 24 (0, 0))) ∧ (b 15 = true → (m15_ : Value) = .pointer (some ⟨gb406, 0, none⟩)) ∧ (b 16 = true → (m16_ : Value) = .pointer (some ⟨gb407, 0, none⟩)) ∧ (b 17 = true → (m17_ : Value) = .pointer (some ⟨gb408, 0, none⟩)) ∧ (b 18 = true → (m18_ : Value) = .pointer (some ⟨gb409, 0, none⟩)) ∧ (b 19 = true → (m19_ : Value) = .pointer (some ⟨gb410, 0, none⟩))) HT_.out HW_.out (by kernel_rfl) (by kernel_rfl) ?_ ?_ ?_
 ·exact ⟨0, 0, 0, 0, 0, .bool false, .bool false, .bool false, .bool false, .bool false, by simp only [putSel, Bool.false_eq_true, if_false], BK394.out, BK395.out, HB.out, fun h_ => absurd h_ (by decide), fun h_ => absurd h_ (by decide), fun h_ => absurd h_ (by decide), fun h_ => absurd h_ (by decide), fun h_ => absurd h_ (by decide), fun h_ => absurd h_ (by decide), fun h_ => absurd h_ (by decide), fun h_ => absurd h_ (by decide), fun h_ => absurd h_ (by decide), fun h_ => absurd h_ (by decide), fun h_ => absurd h_ (by decide), fun h_ => absurd h_ (by decide), fun h_ => absurd h_ (by decide), fun h_ => absurd h_ (by decide), fun h_ => absurd h_ (by decide), fun h_ => absurd h_ (by decide), fun h_ => absurd h_ (by decide), fun h_ => absurd h_ (by decide), fun h_ => absurd h_ (by decide), fun h_ => absurd h_ (by decide), fun h_ => absurd h_ (by decide), fun h_ => absurd h_ (by decide), fun h_ => absurd h_ (by decide), fun h_ => absurd h_ (by decide), fun h_ => absurd h_ (by decide), fun h_ => absurd h_ (by decide), fun h_ => absurd h_ (by decide), fun h_ => absurd h_ (by decide), fun h_ => absurd h_ (by decide), fun h_ => absurd h_ (by decide), fun h_ => absurd h_ (by decide), fun h_ => absurd h_ (by decide), fun h_ => absurd h_ (by decide), fun h_ => absurd h_ (by decide), fun h_ => absurd h_ (by decide), fun h_ => absurd h_ (by decide), fun h_ => absurd h_ (by decide), fun h_ => absurd h_ (by decide), fun h_ => absurd h_ (by decide), fun h_ => absurd h_ (by decide), fun h_ => absurd h_ (by decide), fun h_ => absurd h_ (by decide), fun h_ => absurd h_ (by decide), fun h_ => absurd h_ (by decide), fun h_ => absurd h_ (by decide), fun h_ => absurd h_ (by decide), fun h_ => absurd h_ (by decide), fun h_ => absurd h_ (by decide), fun h_ => absurd h_ (by decide), fun h_ => absurd h_ (by decide), fun h_ => absurd h_ (by decide), fun h_ => absurd h_ (by decide), fun h_ => absurd h_ (by decide), fun h_ => absurd h_ (by decide), fun h_ => absurd h_ (by decide), fun h_ => absurd h_ (by decide), fun h_ => absurd h_ (by decide), fun h_ => absurd h_ (by decide), fun h_ => absurd h_ (by decide), fun h_ => absurd h_ (by decide), fun h_ => absurd h_ (by decide), fun h_ => absurd h_ (by decide), fun h_ => absurd h_ (by decide), fun h_ => absurd h_ (by decide), fun h_ => absurd h_ (by decide)⟩
 ·skip
  clear BK394 BK395 HB
  refine steps_cons ?_ ?_
  ·rintro b a w' ⟨gb406, gb407, gb408, gb409, gb410, m15_, m16_, m17_, m18_, m19_, ha, Q0, Q1, Q22, Q41, Q35, Q47, Q36, Q53, Q37, Q59, Q38, Q48, Q42, Q54, Q43, Q60, Q44, Q55, Q49, Q61, Q50, Q62, Q56, Q2, Q17, Q12, Q23, Q33, Q28, Q34, Q4, Q18, Q13, Q24, Q39, Q29, Q40, Q6, Q19, Q14, Q25, Q45, Q30, Q46, Q8, Q20, Q15, Q26, Q51, Q31, Q52, Q10, Q21, Q16, Q27, Q57, Q32, Q58, Q3, Q5, Q7, Q9, Q11, Q63, Q64, Q65, Q66, Q67⟩ hb_ hon hoff
   refine ⟨_, rfl, fun K hK => ?_⟩
   have e2 : a.tmps[2]? = some (.pointer (some ⟨gb394, 0, none⟩)) := by rw [ha]; exact (putSel_off rfl).trans rfl
   replace ha := Aside0.mk ha
   have BK394 := Aside0.mk Q0
   have BK395 := Aside0.mk Q1
   have HB := Aside0.mk Q22
   have hc0_ : w'.cell? ⟨gb394, 0, none⟩ = some (.int .i64 a0_0) := (blk_cell BK394.out 0).trans rfl
   have hc1_ : w'.cell? ⟨gb394, 1, none⟩ = some (.int .i64 a0_1) := (blk_cell BK394.out 1).trans rfl
   refine value_ (w1 := w') (v := .agg #[.int .i64 a0_0, .int .i64 a0_1]) (by rfl) rfl ?_ ?_
   ·go_simp
    (try simp only [i64_w])
    try rfl
   refine hK.out _ _ ⟨gb406, gb407, gb408, gb409, gb410, m15_, m16_, m17_, m18_, m19_, (by rw [ha.out]; exact putSel_upk 0 hb_ rfl rfl rfl), Q0, Q1, Q22, Q41, Q35, Q47, Q36, Q53, Q37, Q59, Q38, Q48, Q42, Q54, Q43, Q60, Q44, Q55, Q49, Q61, Q50, Q62, Q56, Q2, Q17, Q12, Q23, Q33, Q28, Q34, Q4, Q18, Q13, Q24, Q39, Q29, Q40, Q6, Q19, Q14, Q25, Q45, Q30, Q46, Q8, Q20, Q15, Q26, Q51, Q31, Q52, Q10, Q21, Q16, Q27, Q57, Q32, Q58, fun h0_ => absurd ((hoff 20 (by kernel_rfl)).symm.trans h0_) (by decide), fun h0_ => absurd ((hoff 21 (by kernel_rfl)).symm.trans h0_) (by decide), fun h0_ => absurd ((hoff 22 (by kernel_rfl)).symm.trans h0_) (by decide), fun h0_ => absurd ((hoff 23 (by kernel_rfl)).symm.trans h0_) (by decide), fun h0_ => absurd ((hoff 24 (by kernel_rfl)).symm.trans h0_) (by decide), Q63, Q64, Q65, Q66, Q67⟩
  refine steps_cons ?_ ?_
  ·rintro b a w' ⟨gb406, gb407, gb408, gb409, gb410, m15_, m16_, m17_, m18_, m19_, ha, Q0, Q1, Q22, Q41, Q35, Q47, Q36, Q53, Q37, Q59, Q38, Q48, Q42, Q54, Q43, Q60, Q44, Q55, Q49, Q61, Q50, Q62, Q56, Q2, Q17, Q12, Q23, Q33, Q28, Q34, Q4, Q18, Q13, Q24, Q39, Q29, Q40, Q6, Q19, Q14, Q25, Q45, Q30, Q46, Q8, Q20, Q15, Q26, Q51, Q31, Q52, Q10, Q21, Q16, Q27, Q57, Q32, Q58, Q3, Q5, Q7, Q9, Q11, Q63, Q64, Q65, Q66, Q67⟩ hb_ hon hoff
   refine ⟨_, rfl, fun K hK => ?_⟩
   have e3 : a.tmps[3]? = some (.pointer (some ⟨gb395, 0, none⟩)) := by rw [ha]; exact (putSel_off rfl).trans rfl
   replace ha := Aside0.mk ha
   have BK394 := Aside0.mk Q0
   have BK395 := Aside0.mk Q1
   have HB := Aside0.mk Q22
   have hc0_ : w'.cell? ⟨gb395, 0, none⟩ = some (.int .i64 a1_0) := (blk_cell BK395.out 0).trans rfl
   have hc1_ : w'.cell? ⟨gb395, 1, none⟩ = some (.int .i64 a1_1) := (blk_cell BK395.out 1).trans rfl
   refine value_ (w1 := w') (v := .agg #[.int .i64 a1_0, .int .i64 a1_1]) (by rfl) rfl ?_ ?_
   ·go_simp
    (try simp only [i64_w])
    try rfl
   refine hK.out _ _ ⟨gb406, gb407, gb408, gb409, gb410, m15_, m16_, m17_, m18_, m19_, (by rw [ha.out]; exact putSel_upk 1 hb_ rfl rfl rfl), Q0, Q1, Q22, Q41, Q35, Q47, Q36, Q53, Q37, Q59, Q38, Q48, Q42, Q54, Q43, Q60, Q44, Q55, Q49, Q61, Q50, Q62, Q56, Q2, Q17, Q12, Q23, Q33, Q28, Q34, Q4, Q18, Q13, Q24, Q39, Q29, Q40, Q6, Q19, Q14, Q25, Q45, Q30, Q46, Q8, Q20, Q15, Q26, Q51, Q31, Q52, Q10, Q21, Q16, Q27, Q57, Q32, Q58, fun h0_ => absurd ((hoff 20 (by kernel_rfl)).symm.trans h0_) (by decide), fun h0_ => absurd ((hoff 21 (by kernel_rfl)).symm.trans h0_) (by decide), fun h0_ => absurd ((hoff 22 (by kernel_rfl)).symm.trans h0_) (by decide), fun h0_ => absurd ((hoff 23 (by kernel_rfl)).symm.trans h0_) (by decide), fun h0_ => absurd ((hoff 24 (by kernel_rfl)).symm.trans h0_) (by decide), Q63, Q64, Q65, Q66, Q67⟩
  refine steps_cons ?_ ?_
  ·rintro b a w' ⟨gb406, gb407, gb408, gb409, gb410, m15_, m16_, m17_, m18_, m19_, ha, Q0, Q1, Q22, Q41, Q35, Q47, Q36, Q53, Q37, Q59, Q38, Q48, Q42, Q54, Q43, Q60, Q44, Q55, Q49, Q61, Q50, Q62, Q56, Q2, Q17, Q12, Q23, Q33, Q28, Q34, Q4, Q18, Q13, Q24, Q39, Q29, Q40, Q6, Q19, Q14, Q25, Q45, Q30, Q46, Q8, Q20, Q15, Q26, Q51, Q31, Q52, Q10, Q21, Q16, Q27, Q57, Q32, Q58, Q3, Q5, Q7, Q9, Q11, Q63, Q64, Q65, Q66, Q67⟩ hb_ hon hoff
   refine ⟨_, rfl, fun K hK => ?_⟩
   have e10 : a.tmps[10]? = some (.agg #[.int .i64 a0_0, .int .i64 a0_1]) := by rw [ha]; exact putSel_on (e := (0, 10, .agg #[.int .i64 a0_0, .int .i64 a0_1])) 0 rfl rfl (hon 0 (by kernel_rfl)) rfl
   have e11 : a.tmps[11]? = some (.agg #[.int .i64 a1_0, .int .i64 a1_1]) := by rw [ha]; exact putSel_on (e := (1, 11, .agg #[.int .i64 a1_0, .int .i64 a1_1])) 1 rfl rfl (hon 1 (by kernel_rfl)) rfl
   replace ha := Aside0.mk ha
   have BK394 := Aside0.mk Q0
   have BK395 := Aside0.mk Q1
   have HB := Aside0.mk Q22
   refine goes_ Tryz.func19 (by kernel_rfl) rfl #[.agg #[.int .i64 a0_0, .int .i64 a0_1], .agg #[.int .i64 a1_0, .int .i64 a1_1]] (by rfl) rfl rfl (by first | (simp only [List.map_toArray, List.map_cons, List.map_nil, Act.eval, Array.getD_eq_getD_getElem?, Option.getD_some, e10, e11]; done) | (simp only [List.map_toArray, List.map_cons, List.map_nil, Act.eval, Array.getD_eq_getD_getElem?, Option.getD_some, e10, e11]; rfl)) ?_
   with_reducible refine (xnum_Add.calls k a0_0 a0_1 a1_0 a1_1 t396 t397 _ ?side1 A3.out).mono ?_
   (case side1 => first | exact HLD | exact Laid.below HLD HB.out)
   rintro e w27 ⟨rfl, hb⟩
   refine ⟨_, rfl, ?_⟩
   have n0_ := zb BK394 hb
   have n1_ := zb BK395 hb
   have n2_ := zs HB hb
   have z_BK406 := fun (h0_ : b 15 = true) (h1_ : b 20 = false) => (show w27.heap[gb406]? = some (.cells #[.int .i64 0, .int .i64 0] 24 (0, 0)) from by first | exact (blk_below (g := gb406) (o := .cells #[.int .i64 0, .int .i64 0] 24 (0, 0)) (by (with_reducible repeat (first | refine blk_drewN ?_ _ | refine blk_drew ?_ | refine blk_alloc ?_ _)); exact (Q2 h0_ h1_)) hb))
   have z_BK407 := fun (h0_ : b 16 = true) (h1_ : b 21 = false) => (show w27.heap[gb407]? = some (.cells #[.int .i64 0, .int .i64 0] 24 (0, 0)) from by first | exact (blk_below (g := gb407) (o := .cells #[.int .i64 0, .int .i64 0] 24 (0, 0)) (by (with_reducible repeat (first | refine blk_drewN ?_ _ | refine blk_drew ?_ | refine blk_alloc ?_ _)); exact (Q4 h0_ h1_)) hb))
   have z_BK408 := fun (h0_ : b 17 = true) (h1_ : b 22 = false) => (show w27.heap[gb408]? = some (.cells #[.int .i64 0, .int .i64 0] 24 (0, 0)) from by first | exact (blk_below (g := gb408) (o := .cells #[.int .i64 0, .int .i64 0] 24 (0, 0)) (by (with_reducible repeat (first | refine blk_drewN ?_ _ | refine blk_drew ?_ | refine blk_alloc ?_ _)); exact (Q6 h0_ h1_)) hb))
   have z_BK409 := fun (h0_ : b 18 = true) (h1_ : b 23 = false) => (show w27.heap[gb409]? = some (.cells #[.int .i64 0, .int .i64 0] 24 (0, 0)) from by first | exact (blk_below (g := gb409) (o := .cells #[.int .i64 0, .int .i64 0] 24 (0, 0)) (by (with_reducible repeat (first | refine blk_drewN ?_ _ | refine blk_drew ?_ | refine blk_alloc ?_ _)); exact (Q8 h0_ h1_)) hb))
   have z_BK410 := fun (h0_ : b 19 = true) (h1_ : b 24 = false) => (show w27.heap[gb410]? = some (.cells #[.int .i64 0, .int .i64 0] 24 (0, 0)) from by first | exact (blk_below (g := gb410) (o := .cells #[.int .i64 0, .int .i64 0] 24 (0, 0)) (by (with_reducible repeat (first | refine blk_drewN ?_ _ | refine blk_drew ?_ | refine blk_alloc ?_ _)); exact (Q10 h0_ h1_)) hb))
   clear BK394
   clear BK395
   clear HB
   have BK394 := n0_
   have BK395 := n1_
   have HB := n2_
   clear n0_ n1_ n2_
   (try clear hb)
   (try clear hb2)
   (try clear hk)
   (try clear hi)
   refine hK.out _ _ ⟨gb406, gb407, gb408, gb409, gb410, m15_, m16_, m17_, m18_, m19_, (by rw [ha.out]; exact putSel_upk 2 hb_ rfl rfl rfl), BK394.out, BK395.out, HB.out, Q41, Q35, Q47, Q36, Q53, Q37, Q59, Q38, Q48, Q42, Q54, Q43, Q60, Q44, Q55, Q49, Q61, Q50, Q62, Q56, z_BK406, Q17, Q12, Q23, Q33, Q28, Q34, z_BK407, Q18, Q13, Q24, Q39, Q29, Q40, z_BK408, Q19, Q14, Q25, Q45, Q30, Q46, z_BK409, Q20, Q15, Q26, Q51, Q31, Q52, z_BK410, Q21, Q16, Q27, Q57, Q32, Q58, fun h0_ => absurd ((hoff 20 (by kernel_rfl)).symm.trans h0_) (by decide), fun h0_ => absurd ((hoff 21 (by kernel_rfl)).symm.trans h0_) (by decide), fun h0_ => absurd ((hoff 22 (by kernel_rfl)).symm.trans h0_) (by decide), fun h0_ => absurd ((hoff 23 (by kernel_rfl)).symm.trans h0_) (by decide), fun h0_ => absurd ((hoff 24 (by kernel_rfl)).symm.trans h0_) (by decide), Q63, Q64, Q65, Q66, Q67⟩
  refine steps_cons ?_ ?_
  ·rintro b a w' ⟨gb406, gb407, gb408, gb409, gb410, m15_, m16_, m17_, m18_, m19_, ha, Q0, Q1, Q22, Q41, Q35, Q47, Q36, Q53, Q37, Q59, Q38, Q48, Q42, Q54, Q43, Q60, Q44, Q55, Q49, Q61, Q50, Q62, Q56, Q2, Q17, Q12, Q23, Q33, Q28, Q34, Q4, Q18, Q13, Q24, Q39, Q29, Q40, Q6, Q19, Q14, Q25, Q45, Q30, Q46, Q8, Q20, Q15, Q26, Q51, Q31, Q52, Q10, Q21, Q16, Q27, Q57, Q32, Q58, Q3, Q5, Q7, Q9, Q11, Q63, Q64, Q65, Q66, Q67⟩ hb_ hon hoff
   refine ⟨_, rfl, fun K hK => ?_⟩
   have e2 : a.tmps[2]? = some (.pointer (some ⟨gb394, 0, none⟩)) := by rw [ha]; exact (putSel_off rfl).trans rfl
   replace ha := Aside0.mk ha
   have BK394 := Aside0.mk Q0
   have BK395 := Aside0.mk Q1
   have HB := Aside0.mk Q22
   have hc0_ : w'.cell? ⟨gb394, 0, none⟩ = some (.int .i64 a0_0) := (blk_cell BK394.out 0).trans rfl
   have hc1_ : w'.cell? ⟨gb394, 1, none⟩ = some (.int .i64 a0_1) := (blk_cell BK394.out 1).trans rfl
   refine value_ (w1 := w') (v := .agg #[.int .i64 a0_0, .int .i64 a0_1]) (by rfl) rfl ?_ ?_
   ·go_simp
    (try simp only [i64_w])
    try rfl
   refine hK.out _ _ ⟨gb406, gb407, gb408, gb409, gb410, m15_, m16_, m17_, m18_, m19_, (by rw [ha.out]; exact putSel_upk 3 hb_ rfl rfl rfl), Q0, Q1, Q22, Q41, Q35, Q47, Q36, Q53, Q37, Q59, Q38, Q48, Q42, Q54, Q43, Q60, Q44, Q55, Q49, Q61, Q50, Q62, Q56, Q2, Q17, Q12, Q23, Q33, Q28, Q34, Q4, Q18, Q13, Q24, Q39, Q29, Q40, Q6, Q19, Q14, Q25, Q45, Q30, Q46, Q8, Q20, Q15, Q26, Q51, Q31, Q52, Q10, Q21, Q16, Q27, Q57, Q32, Q58, fun h0_ => absurd ((hoff 20 (by kernel_rfl)).symm.trans h0_) (by decide), fun h0_ => absurd ((hoff 21 (by kernel_rfl)).symm.trans h0_) (by decide), fun h0_ => absurd ((hoff 22 (by kernel_rfl)).symm.trans h0_) (by decide), fun h0_ => absurd ((hoff 23 (by kernel_rfl)).symm.trans h0_) (by decide), fun h0_ => absurd ((hoff 24 (by kernel_rfl)).symm.trans h0_) (by decide), Q63, Q64, Q65, Q66, Q67⟩
  refine steps_cons ?_ ?_
  ·rintro b a w' ⟨gb406, gb407, gb408, gb409, gb410, m15_, m16_, m17_, m18_, m19_, ha, Q0, Q1, Q22, Q41, Q35, Q47, Q36, Q53, Q37, Q59, Q38, Q48, Q42, Q54, Q43, Q60, Q44, Q55, Q49, Q61, Q50, Q62, Q56, Q2, Q17, Q12, Q23, Q33, Q28, Q34, Q4, Q18, Q13, Q24, Q39, Q29, Q40, Q6, Q19, Q14, Q25, Q45, Q30, Q46, Q8, Q20, Q15, Q26, Q51, Q31, Q52, Q10, Q21, Q16, Q27, Q57, Q32, Q58, Q3, Q5, Q7, Q9, Q11, Q63, Q64, Q65, Q66, Q67⟩ hb_ hon hoff
   refine ⟨_, rfl, fun K hK => ?_⟩
   have e3 : a.tmps[3]? = some (.pointer (some ⟨gb395, 0, none⟩)) := by rw [ha]; exact (putSel_off rfl).trans rfl
   replace ha := Aside0.mk ha
   have BK394 := Aside0.mk Q0
   have BK395 := Aside0.mk Q1
   have HB := Aside0.mk Q22
   have hc0_ : w'.cell? ⟨gb395, 0, none⟩ = some (.int .i64 a1_0) := (blk_cell BK395.out 0).trans rfl
   have hc1_ : w'.cell? ⟨gb395, 1, none⟩ = some (.int .i64 a1_1) := (blk_cell BK395.out 1).trans rfl
   refine value_ (w1 := w') (v := .agg #[.int .i64 a1_0, .int .i64 a1_1]) (by rfl) rfl ?_ ?_
   ·go_simp
    (try simp only [i64_w])
    try rfl
   refine hK.out _ _ ⟨gb406, gb407, gb408, gb409, gb410, m15_, m16_, m17_, m18_, m19_, (by rw [ha.out]; exact putSel_upk 4 hb_ rfl rfl rfl), Q0, Q1, Q22, Q41, Q35, Q47, Q36, Q53, Q37, Q59, Q38, Q48, Q42, Q54, Q43, Q60, Q44, Q55, Q49, Q61, Q50, Q62, Q56, Q2, Q17, Q12, Q23, Q33, Q28, Q34, Q4, Q18, Q13, Q24, Q39, Q29, Q40, Q6, Q19, Q14, Q25, Q45, Q30, Q46, Q8, Q20, Q15, Q26, Q51, Q31, Q52, Q10, Q21, Q16, Q27, Q57, Q32, Q58, fun h0_ => absurd ((hoff 20 (by kernel_rfl)).symm.trans h0_) (by decide), fun h0_ => absurd ((hoff 21 (by kernel_rfl)).symm.trans h0_) (by decide), fun h0_ => absurd ((hoff 22 (by kernel_rfl)).symm.trans h0_) (by decide), fun h0_ => absurd ((hoff 23 (by kernel_rfl)).symm.trans h0_) (by decide), fun h0_ => absurd ((hoff 24 (by kernel_rfl)).symm.trans h0_) (by decide), Q63, Q64, Q65, Q66, Q67⟩
  refine steps_cons ?_ ?_
  ·rintro b a w' ⟨gb406, gb407, gb408, gb409, gb410, m15_, m16_, m17_, m18_, m19_, ha, Q0, Q1, Q22, Q41, Q35, Q47, Q36, Q53, Q37, Q59, Q38, Q48, Q42, Q54, Q43, Q60, Q44, Q55, Q49, Q61, Q50, Q62, Q56, Q2, Q17, Q12, Q23, Q33, Q28, Q34, Q4, Q18, Q13, Q24, Q39, Q29, Q40, Q6, Q19, Q14, Q25, Q45, Q30, Q46, Q8, Q20, Q15, Q26, Q51, Q31, Q52, Q10, Q21, Q16, Q27, Q57, Q32, Q58, Q3, Q5, Q7, Q9, Q11, Q63, Q64, Q65, Q66, Q67⟩ hb_ hon hoff
   refine ⟨_, rfl, fun K hK => ?_⟩
   have e13 : a.tmps[13]? = some (.agg #[.int .i64 a0_0, .int .i64 a0_1]) := by rw [ha]; exact putSel_on (e := (3, 13, .agg #[.int .i64 a0_0, .int .i64 a0_1])) 3 rfl rfl (hon 3 (by kernel_rfl)) rfl
   have e14 : a.tmps[14]? = some (.agg #[.int .i64 a1_0, .int .i64 a1_1]) := by rw [ha]; exact putSel_on (e := (4, 14, .agg #[.int .i64 a1_0, .int .i64 a1_1])) 4 rfl rfl (hon 4 (by kernel_rfl)) rfl
   replace ha := Aside0.mk ha
   have BK394 := Aside0.mk Q0
   have BK395 := Aside0.mk Q1
   have HB := Aside0.mk Q22
   refine goes_ Tryz.func20 (by kernel_rfl) rfl #[.agg #[.int .i64 a0_0, .int .i64 a0_1], .agg #[.int .i64 a1_0, .int .i64 a1_1]] (by rfl) rfl rfl (by first | (simp only [List.map_toArray, List.map_cons, List.map_nil, Act.eval, Array.getD_eq_getD_getElem?, Option.getD_some, e13, e14]; done) | (simp only [List.map_toArray, List.map_cons, List.map_nil, Act.eval, Array.getD_eq_getD_getElem?, Option.getD_some, e13, e14]; rfl)) ?_
   with_reducible refine (xnum_Sub.calls k a0_0 a0_1 a1_0 a1_1 t398 t399 _ ?side1 A4.out).mono ?_
   (case side1 => first | exact HLD | exact Laid.below HLD HB.out)
   rintro e w29 ⟨rfl, hb⟩
   refine ⟨_, rfl, ?_⟩
   have n0_ := zb BK394 hb
   have n1_ := zb BK395 hb
   have n2_ := zs HB hb
   have z_BK406 := fun (h0_ : b 15 = true) (h1_ : b 20 = false) => (show w29.heap[gb406]? = some (.cells #[.int .i64 0, .int .i64 0] 24 (0, 0)) from by first | exact (blk_below (g := gb406) (o := .cells #[.int .i64 0, .int .i64 0] 24 (0, 0)) (by (with_reducible repeat (first | refine blk_drewN ?_ _ | refine blk_drew ?_ | refine blk_alloc ?_ _)); exact (Q2 h0_ h1_)) hb))
   have z_BK407 := fun (h0_ : b 16 = true) (h1_ : b 21 = false) => (show w29.heap[gb407]? = some (.cells #[.int .i64 0, .int .i64 0] 24 (0, 0)) from by first | exact (blk_below (g := gb407) (o := .cells #[.int .i64 0, .int .i64 0] 24 (0, 0)) (by (with_reducible repeat (first | refine blk_drewN ?_ _ | refine blk_drew ?_ | refine blk_alloc ?_ _)); exact (Q4 h0_ h1_)) hb))
   have z_BK408 := fun (h0_ : b 17 = true) (h1_ : b 22 = false) => (show w29.heap[gb408]? = some (.cells #[.int .i64 0, .int .i64 0] 24 (0, 0)) from by first | exact (blk_below (g := gb408) (o := .cells #[.int .i64 0, .int .i64 0] 24 (0, 0)) (by (with_reducible repeat (first | refine blk_drewN ?_ _ | refine blk_drew ?_ | refine blk_alloc ?_ _)); exact (Q6 h0_ h1_)) hb))
   have z_BK409 := fun (h0_ : b 18 = true) (h1_ : b 23 = false) => (show w29.heap[gb409]? = some (.cells #[.int .i64 0, .int .i64 0] 24 (0, 0)) from by first | exact (blk_below (g := gb409) (o := .cells #[.int .i64 0, .int .i64 0] 24 (0, 0)) (by (with_reducible repeat (first | refine blk_drewN ?_ _ | refine blk_drew ?_ | refine blk_alloc ?_ _)); exact (Q8 h0_ h1_)) hb))
   have z_BK410 := fun (h0_ : b 19 = true) (h1_ : b 24 = false) => (show w29.heap[gb410]? = some (.cells #[.int .i64 0, .int .i64 0] 24 (0, 0)) from by first | exact (blk_below (g := gb410) (o := .cells #[.int .i64 0, .int .i64 0] 24 (0, 0)) (by (with_reducible repeat (first | refine blk_drewN ?_ _ | refine blk_drew ?_ | refine blk_alloc ?_ _)); exact (Q10 h0_ h1_)) hb))
   clear BK394
   clear BK395
   clear HB
   have BK394 := n0_
   have BK395 := n1_
   have HB := n2_
   clear n0_ n1_ n2_
   (try clear hb)
   (try clear hb2)
   (try clear hk)
   (try clear hi)
   refine hK.out _ _ ⟨gb406, gb407, gb408, gb409, gb410, m15_, m16_, m17_, m18_, m19_, (by rw [ha.out]; exact putSel_upk 5 hb_ rfl rfl rfl), BK394.out, BK395.out, HB.out, Q41, Q35, Q47, Q36, Q53, Q37, Q59, Q38, Q48, Q42, Q54, Q43, Q60, Q44, Q55, Q49, Q61, Q50, Q62, Q56, z_BK406, Q17, Q12, Q23, Q33, Q28, Q34, z_BK407, Q18, Q13, Q24, Q39, Q29, Q40, z_BK408, Q19, Q14, Q25, Q45, Q30, Q46, z_BK409, Q20, Q15, Q26, Q51, Q31, Q52, z_BK410, Q21, Q16, Q27, Q57, Q32, Q58, fun h0_ => absurd ((hoff 20 (by kernel_rfl)).symm.trans h0_) (by decide), fun h0_ => absurd ((hoff 21 (by kernel_rfl)).symm.trans h0_) (by decide), fun h0_ => absurd ((hoff 22 (by kernel_rfl)).symm.trans h0_) (by decide), fun h0_ => absurd ((hoff 23 (by kernel_rfl)).symm.trans h0_) (by decide), fun h0_ => absurd ((hoff 24 (by kernel_rfl)).symm.trans h0_) (by decide), Q63, Q64, Q65, Q66, Q67⟩
  refine steps_cons ?_ ?_
  ·rintro b a w' ⟨gb406, gb407, gb408, gb409, gb410, m15_, m16_, m17_, m18_, m19_, ha, Q0, Q1, Q22, Q41, Q35, Q47, Q36, Q53, Q37, Q59, Q38, Q48, Q42, Q54, Q43, Q60, Q44, Q55, Q49, Q61, Q50, Q62, Q56, Q2, Q17, Q12, Q23, Q33, Q28, Q34, Q4, Q18, Q13, Q24, Q39, Q29, Q40, Q6, Q19, Q14, Q25, Q45, Q30, Q46, Q8, Q20, Q15, Q26, Q51, Q31, Q52, Q10, Q21, Q16, Q27, Q57, Q32, Q58, Q3, Q5, Q7, Q9, Q11, Q63, Q64, Q65, Q66, Q67⟩ hb_ hon hoff
   refine ⟨_, rfl, fun K hK => ?_⟩
   have e2 : a.tmps[2]? = some (.pointer (some ⟨gb394, 0, none⟩)) := by rw [ha]; exact (putSel_off rfl).trans rfl
   replace ha := Aside0.mk ha
   have BK394 := Aside0.mk Q0
   have BK395 := Aside0.mk Q1
   have HB := Aside0.mk Q22
   have hc0_ : w'.cell? ⟨gb394, 0, none⟩ = some (.int .i64 a0_0) := (blk_cell BK394.out 0).trans rfl
   have hc1_ : w'.cell? ⟨gb394, 1, none⟩ = some (.int .i64 a0_1) := (blk_cell BK394.out 1).trans rfl
   refine value_ (w1 := w') (v := .agg #[.int .i64 a0_0, .int .i64 a0_1]) (by rfl) rfl ?_ ?_
   ·go_simp
    (try simp only [i64_w])
    try rfl
   refine hK.out _ _ ⟨gb406, gb407, gb408, gb409, gb410, m15_, m16_, m17_, m18_, m19_, (by rw [ha.out]; exact putSel_upk 6 hb_ rfl rfl rfl), Q0, Q1, Q22, Q41, Q35, Q47, Q36, Q53, Q37, Q59, Q38, Q48, Q42, Q54, Q43, Q60, Q44, Q55, Q49, Q61, Q50, Q62, Q56, Q2, Q17, Q12, Q23, Q33, Q28, Q34, Q4, Q18, Q13, Q24, Q39, Q29, Q40, Q6, Q19, Q14, Q25, Q45, Q30, Q46, Q8, Q20, Q15, Q26, Q51, Q31, Q52, Q10, Q21, Q16, Q27, Q57, Q32, Q58, fun h0_ => absurd ((hoff 20 (by kernel_rfl)).symm.trans h0_) (by decide), fun h0_ => absurd ((hoff 21 (by kernel_rfl)).symm.trans h0_) (by decide), fun h0_ => absurd ((hoff 22 (by kernel_rfl)).symm.trans h0_) (by decide), fun h0_ => absurd ((hoff 23 (by kernel_rfl)).symm.trans h0_) (by decide), fun h0_ => absurd ((hoff 24 (by kernel_rfl)).symm.trans h0_) (by decide), Q63, Q64, Q65, Q66, Q67⟩
  refine steps_cons ?_ ?_
  ·rintro b a w' ⟨gb406, gb407, gb408, gb409, gb410, m15_, m16_, m17_, m18_, m19_, ha, Q0, Q1, Q22, Q41, Q35, Q47, Q36, Q53, Q37, Q59, Q38, Q48, Q42, Q54, Q43, Q60, Q44, Q55, Q49, Q61, Q50, Q62, Q56, Q2, Q17, Q12, Q23, Q33, Q28, Q34, Q4, Q18, Q13, Q24, Q39, Q29, Q40, Q6, Q19, Q14, Q25, Q45, Q30, Q46, Q8, Q20, Q15, Q26, Q51, Q31, Q52, Q10, Q21, Q16, Q27, Q57, Q32, Q58, Q3, Q5, Q7, Q9, Q11, Q63, Q64, Q65, Q66, Q67⟩ hb_ hon hoff
   refine ⟨_, rfl, fun K hK => ?_⟩
   have e3 : a.tmps[3]? = some (.pointer (some ⟨gb395, 0, none⟩)) := by rw [ha]; exact (putSel_off rfl).trans rfl
   replace ha := Aside0.mk ha
   have BK394 := Aside0.mk Q0
   have BK395 := Aside0.mk Q1
   have HB := Aside0.mk Q22
   have hc0_ : w'.cell? ⟨gb395, 0, none⟩ = some (.int .i64 a1_0) := (blk_cell BK395.out 0).trans rfl
   have hc1_ : w'.cell? ⟨gb395, 1, none⟩ = some (.int .i64 a1_1) := (blk_cell BK395.out 1).trans rfl
   refine value_ (w1 := w') (v := .agg #[.int .i64 a1_0, .int .i64 a1_1]) (by rfl) rfl ?_ ?_
   ·go_simp
    (try simp only [i64_w])
    try rfl
   refine hK.out _ _ ⟨gb406, gb407, gb408, gb409, gb410, m15_, m16_, m17_, m18_, m19_, (by rw [ha.out]; exact putSel_upk 7 hb_ rfl rfl rfl), Q0, Q1, Q22, Q41, Q35, Q47, Q36, Q53, Q37, Q59, Q38, Q48, Q42, Q54, Q43, Q60, Q44, Q55, Q49, Q61, Q50, Q62, Q56, Q2, Q17, Q12, Q23, Q33, Q28, Q34, Q4, Q18, Q13, Q24, Q39, Q29, Q40, Q6, Q19, Q14, Q25, Q45, Q30, Q46, Q8, Q20, Q15, Q26, Q51, Q31, Q52, Q10, Q21, Q16, Q27, Q57, Q32, Q58, fun h0_ => absurd ((hoff 20 (by kernel_rfl)).symm.trans h0_) (by decide), fun h0_ => absurd ((hoff 21 (by kernel_rfl)).symm.trans h0_) (by decide), fun h0_ => absurd ((hoff 22 (by kernel_rfl)).symm.trans h0_) (by decide), fun h0_ => absurd ((hoff 23 (by kernel_rfl)).symm.trans h0_) (by decide), fun h0_ => absurd ((hoff 24 (by kernel_rfl)).symm.trans h0_) (by decide), Q63, Q64, Q65, Q66, Q67⟩
  refine steps_cons ?_ ?_
  ·rintro b a w' ⟨gb406, gb407, gb408, gb409, gb410, m15_, m16_, m17_, m18_, m19_, ha, Q0, Q1, Q22, Q41, Q35, Q47, Q36, Q53, Q37, Q59, Q38, Q48, Q42, Q54, Q43, Q60, Q44, Q55, Q49, Q61, Q50, Q62, Q56, Q2, Q17, Q12, Q23, Q33, Q28, Q34, Q4, Q18, Q13, Q24, Q39, Q29, Q40, Q6, Q19, Q14, Q25, Q45, Q30, Q46, Q8, Q20, Q15, Q26, Q51, Q31, Q52, Q10, Q21, Q16, Q27, Q57, Q32, Q58, Q3, Q5, Q7, Q9, Q11, Q63, Q64, Q65, Q66, Q67⟩ hb_ hon hoff
   refine ⟨_, rfl, fun K hK => ?_⟩
   have e16 : a.tmps[16]? = some (.agg #[.int .i64 a0_0, .int .i64 a0_1]) := by rw [ha]; exact putSel_on (e := (6, 16, .agg #[.int .i64 a0_0, .int .i64 a0_1])) 6 rfl rfl (hon 6 (by kernel_rfl)) rfl
   have e17 : a.tmps[17]? = some (.agg #[.int .i64 a1_0, .int .i64 a1_1]) := by rw [ha]; exact putSel_on (e := (7, 17, .agg #[.int .i64 a1_0, .int .i64 a1_1])) 7 rfl rfl (hon 7 (by kernel_rfl)) rfl
   replace ha := Aside0.mk ha
   have BK394 := Aside0.mk Q0
   have BK395 := Aside0.mk Q1
   have HB := Aside0.mk Q22
   refine goes_ Tryz.func21 (by kernel_rfl) rfl #[.agg #[.int .i64 a0_0, .int .i64 a0_1], .agg #[.int .i64 a1_0, .int .i64 a1_1]] (by rfl) rfl rfl (by first | (simp only [List.map_toArray, List.map_cons, List.map_nil, Act.eval, Array.getD_eq_getD_getElem?, Option.getD_some, e16, e17]; done) | (simp only [List.map_toArray, List.map_cons, List.map_nil, Act.eval, Array.getD_eq_getD_getElem?, Option.getD_some, e16, e17]; rfl)) ?_
   with_reducible refine (xnum_Mul.calls k a0_0 a0_1 a1_0 a1_1 t400 t401 _ ?side1 A5.out).mono ?_
   (case side1 => first | exact HLD | exact Laid.below HLD HB.out)
   rintro e w30 ⟨rfl, hb⟩
   refine ⟨_, rfl, ?_⟩
   have n0_ := zb BK394 hb
   have n1_ := zb BK395 hb
   have n2_ := zs HB hb
   have z_BK406 := fun (h0_ : b 15 = true) (h1_ : b 20 = false) => (show w30.heap[gb406]? = some (.cells #[.int .i64 0, .int .i64 0] 24 (0, 0)) from by first | exact (blk_below (g := gb406) (o := .cells #[.int .i64 0, .int .i64 0] 24 (0, 0)) (by (with_reducible repeat (first | refine blk_drewN ?_ _ | refine blk_drew ?_ | refine blk_alloc ?_ _)); exact (Q2 h0_ h1_)) hb))
   have z_BK407 := fun (h0_ : b 16 = true) (h1_ : b 21 = false) => (show w30.heap[gb407]? = some (.cells #[.int .i64 0, .int .i64 0] 24 (0, 0)) from by first | exact (blk_below (g := gb407) (o := .cells #[.int .i64 0, .int .i64 0] 24 (0, 0)) (by (with_reducible repeat (first | refine blk_drewN ?_ _ | refine blk_drew ?_ | refine blk_alloc ?_ _)); exact (Q4 h0_ h1_)) hb))
   have z_BK408 := fun (h0_ : b 17 = true) (h1_ : b 22 = false) => (show w30.heap[gb408]? = some (.cells #[.int .i64 0, .int .i64 0] 24 (0, 0)) from by first | exact (blk_below (g := gb408) (o := .cells #[.int .i64 0, .int .i64 0] 24 (0, 0)) (by (with_reducible repeat (first | refine blk_drewN ?_ _ | refine blk_drew ?_ | refine blk_alloc ?_ _)); exact (Q6 h0_ h1_)) hb))
   have z_BK409 := fun (h0_ : b 18 = true) (h1_ : b 23 = false) => (show w30.heap[gb409]? = some (.cells #[.int .i64 0, .int .i64 0] 24 (0, 0)) from by first | exact (blk_below (g := gb409) (o := .cells #[.int .i64 0, .int .i64 0] 24 (0, 0)) (by (with_reducible repeat (first | refine blk_drewN ?_ _ | refine blk_drew ?_ | refine blk_alloc ?_ _)); exact (Q8 h0_ h1_)) hb))
   have z_BK410 := fun (h0_ : b 19 = true) (h1_ : b 24 = false) => (show w30.heap[gb410]? = some (.cells #[.int .i64 0, .int .i64 0] 24 (0, 0)) from by first | exact (blk_below (g := gb410) (o := .cells #[.int .i64 0, .int .i64 0] 24 (0, 0)) (by (with_reducible repeat (first | refine blk_drewN ?_ _ | refine blk_drew ?_ | refine blk_alloc ?_ _)); exact (Q10 h0_ h1_)) hb))
   clear BK394
   clear BK395
   clear HB
   have BK394 := n0_
   have BK395 := n1_
   have HB := n2_
   clear n0_ n1_ n2_
   (try clear hb)
   (try clear hb2)
   (try clear hk)
   (try clear hi)
   refine hK.out _ _ ⟨gb406, gb407, gb408, gb409, gb410, m15_, m16_, m17_, m18_, m19_, (by rw [ha.out]; exact putSel_upk 8 hb_ rfl rfl rfl), BK394.out, BK395.out, HB.out, Q41, Q35, Q47, Q36, Q53, Q37, Q59, Q38, Q48, Q42, Q54, Q43, Q60, Q44, Q55, Q49, Q61, Q50, Q62, Q56, z_BK406, Q17, Q12, Q23, Q33, Q28, Q34, z_BK407, Q18, Q13, Q24, Q39, Q29, Q40, z_BK408, Q19, Q14, Q25, Q45, Q30, Q46, z_BK409, Q20, Q15, Q26, Q51, Q31, Q52, z_BK410, Q21, Q16, Q27, Q57, Q32, Q58, fun h0_ => absurd ((hoff 20 (by kernel_rfl)).symm.trans h0_) (by decide), fun h0_ => absurd ((hoff 21 (by kernel_rfl)).symm.trans h0_) (by decide), fun h0_ => absurd ((hoff 22 (by kernel_rfl)).symm.trans h0_) (by decide), fun h0_ => absurd ((hoff 23 (by kernel_rfl)).symm.trans h0_) (by decide), fun h0_ => absurd ((hoff 24 (by kernel_rfl)).symm.trans h0_) (by decide), Q63, Q64, Q65, Q66, Q67⟩
  refine steps_cons ?_ ?_
  ·rintro b a w' ⟨gb406, gb407, gb408, gb409, gb410, m15_, m16_, m17_, m18_, m19_, ha, Q0, Q1, Q22, Q41, Q35, Q47, Q36, Q53, Q37, Q59, Q38, Q48, Q42, Q54, Q43, Q60, Q44, Q55, Q49, Q61, Q50, Q62, Q56, Q2, Q17, Q12, Q23, Q33, Q28, Q34, Q4, Q18, Q13, Q24, Q39, Q29, Q40, Q6, Q19, Q14, Q25, Q45, Q30, Q46, Q8, Q20, Q15, Q26, Q51, Q31, Q52, Q10, Q21, Q16, Q27, Q57, Q32, Q58, Q3, Q5, Q7, Q9, Q11, Q63, Q64, Q65, Q66, Q67⟩ hb_ hon hoff
   refine ⟨_, rfl, fun K hK => ?_⟩
   have e2 : a.tmps[2]? = some (.pointer (some ⟨gb394, 0, none⟩)) := by rw [ha]; exact (putSel_off rfl).trans rfl
   replace ha := Aside0.mk ha
   have BK394 := Aside0.mk Q0
   have BK395 := Aside0.mk Q1
   have HB := Aside0.mk Q22
   have hc0_ : w'.cell? ⟨gb394, 0, none⟩ = some (.int .i64 a0_0) := (blk_cell BK394.out 0).trans rfl
   have hc1_ : w'.cell? ⟨gb394, 1, none⟩ = some (.int .i64 a0_1) := (blk_cell BK394.out 1).trans rfl
   refine value_ (w1 := w') (v := .agg #[.int .i64 a0_0, .int .i64 a0_1]) (by rfl) rfl ?_ ?_
   ·go_simp
    (try simp only [i64_w])
    try rfl
   refine hK.out _ _ ⟨gb406, gb407, gb408, gb409, gb410, m15_, m16_, m17_, m18_, m19_, (by rw [ha.out]; exact putSel_upk 9 hb_ rfl rfl rfl), Q0, Q1, Q22, Q41, Q35, Q47, Q36, Q53, Q37, Q59, Q38, Q48, Q42, Q54, Q43, Q60, Q44, Q55, Q49, Q61, Q50, Q62, Q56, Q2, Q17, Q12, Q23, Q33, Q28, Q34, Q4, Q18, Q13, Q24, Q39, Q29, Q40, Q6, Q19, Q14, Q25, Q45, Q30, Q46, Q8, Q20, Q15, Q26, Q51, Q31, Q52, Q10, Q21, Q16, Q27, Q57, Q32, Q58, fun h0_ => absurd ((hoff 20 (by kernel_rfl)).symm.trans h0_) (by decide), fun h0_ => absurd ((hoff 21 (by kernel_rfl)).symm.trans h0_) (by decide), fun h0_ => absurd ((hoff 22 (by kernel_rfl)).symm.trans h0_) (by decide), fun h0_ => absurd ((hoff 23 (by kernel_rfl)).symm.trans h0_) (by decide), fun h0_ => absurd ((hoff 24 (by kernel_rfl)).symm.trans h0_) (by decide), Q63, Q64, Q65, Q66, Q67⟩
  refine steps_cons ?_ ?_
  ·rintro b a w' ⟨gb406, gb407, gb408, gb409, gb410, m15_, m16_, m17_, m18_, m19_, ha, Q0, Q1, Q22, Q41, Q35, Q47, Q36, Q53, Q37, Q59, Q38, Q48, Q42, Q54, Q43, Q60, Q44, Q55, Q49, Q61, Q50, Q62, Q56, Q2, Q17, Q12, Q23, Q33, Q28, Q34, Q4, Q18, Q13, Q24, Q39, Q29, Q40, Q6, Q19, Q14, Q25, Q45, Q30, Q46, Q8, Q20, Q15, Q26, Q51, Q31, Q52, Q10, Q21, Q16, Q27, Q57, Q32, Q58, Q3, Q5, Q7, Q9, Q11, Q63, Q64, Q65, Q66, Q67⟩ hb_ hon hoff
   refine ⟨_, rfl, fun K hK => ?_⟩
   have e3 : a.tmps[3]? = some (.pointer (some ⟨gb395, 0, none⟩)) := by rw [ha]; exact (putSel_off rfl).trans rfl
   replace ha := Aside0.mk ha
   have BK394 := Aside0.mk Q0
   have BK395 := Aside0.mk Q1
   have HB := Aside0.mk Q22
   have hc0_ : w'.cell? ⟨gb395, 0, none⟩ = some (.int .i64 a1_0) := (blk_cell BK395.out 0).trans rfl
   have hc1_ : w'.cell? ⟨gb395, 1, none⟩ = some (.int .i64 a1_1) := (blk_cell BK395.out 1).trans rfl
   refine value_ (w1 := w') (v := .agg #[.int .i64 a1_0, .int .i64 a1_1]) (by rfl) rfl ?_ ?_
   ·go_simp
    (try simp only [i64_w])
    try rfl
   refine hK.out _ _ ⟨gb406, gb407, gb408, gb409, gb410, m15_, m16_, m17_, m18_, m19_, (by rw [ha.out]; exact putSel_upk 10 hb_ rfl rfl rfl), Q0, Q1, Q22, Q41, Q35, Q47, Q36, Q53, Q37, Q59, Q38, Q48, Q42, Q54, Q43, Q60, Q44, Q55, Q49, Q61, Q50, Q62, Q56, Q2, Q17, Q12, Q23, Q33, Q28, Q34, Q4, Q18, Q13, Q24, Q39, Q29, Q40, Q6, Q19, Q14, Q25, Q45, Q30, Q46, Q8, Q20, Q15, Q26, Q51, Q31, Q52, Q10, Q21, Q16, Q27, Q57, Q32, Q58, fun h0_ => absurd ((hoff 20 (by kernel_rfl)).symm.trans h0_) (by decide), fun h0_ => absurd ((hoff 21 (by kernel_rfl)).symm.trans h0_) (by decide), fun h0_ => absurd ((hoff 22 (by kernel_rfl)).symm.trans h0_) (by decide), fun h0_ => absurd ((hoff 23 (by kernel_rfl)).symm.trans h0_) (by decide), fun h0_ => absurd ((hoff 24 (by kernel_rfl)).symm.trans h0_) (by decide), Q63, Q64, Q65, Q66, Q67⟩
  refine steps_cons ?_ ?_
  ·rintro b a w' ⟨gb406, gb407, gb408, gb409, gb410, m15_, m16_, m17_, m18_, m19_, ha, Q0, Q1, Q22, Q41, Q35, Q47, Q36, Q53, Q37, Q59, Q38, Q48, Q42, Q54, Q43, Q60, Q44, Q55, Q49, Q61, Q50, Q62, Q56, Q2, Q17, Q12, Q23, Q33, Q28, Q34, Q4, Q18, Q13, Q24, Q39, Q29, Q40, Q6, Q19, Q14, Q25, Q45, Q30, Q46, Q8, Q20, Q15, Q26, Q51, Q31, Q52, Q10, Q21, Q16, Q27, Q57, Q32, Q58, Q3, Q5, Q7, Q9, Q11, Q63, Q64, Q65, Q66, Q67⟩ hb_ hon hoff
   refine ⟨_, rfl, fun K hK => ?_⟩
   have e19 : a.tmps[19]? = some (.agg #[.int .i64 a0_0, .int .i64 a0_1]) := by rw [ha]; exact putSel_on (e := (9, 19, .agg #[.int .i64 a0_0, .int .i64 a0_1])) 9 rfl rfl (hon 9 (by kernel_rfl)) rfl
   have e20 : a.tmps[20]? = some (.agg #[.int .i64 a1_0, .int .i64 a1_1]) := by rw [ha]; exact putSel_on (e := (10, 20, .agg #[.int .i64 a1_0, .int .i64 a1_1])) 10 rfl rfl (hon 10 (by kernel_rfl)) rfl
   replace ha := Aside0.mk ha
   have BK394 := Aside0.mk Q0
   have BK395 := Aside0.mk Q1
   have HB := Aside0.mk Q22
   refine goes_ Tryz.func22 (by kernel_rfl) rfl #[.agg #[.int .i64 a0_0, .int .i64 a0_1], .agg #[.int .i64 a1_0, .int .i64 a1_1]] (by rfl) rfl rfl (by first | (simp only [List.map_toArray, List.map_cons, List.map_nil, Act.eval, Array.getD_eq_getD_getElem?, Option.getD_some, e19, e20]; done) | (simp only [List.map_toArray, List.map_cons, List.map_nil, Act.eval, Array.getD_eq_getD_getElem?, Option.getD_some, e19, e20]; rfl)) ?_
   with_reducible refine (xnum_Div.calls k a0_0 a0_1 a1_0 a1_1 t402 t403 _ ?side1 A6.out).mono ?_
   (case side1 => first | exact HLD | exact Laid.below HLD HB.out)
   rintro e w31 ⟨rfl, hb⟩
   refine ⟨_, rfl, ?_⟩
   have n0_ := zb BK394 hb
   have n1_ := zb BK395 hb
   have n2_ := zs HB hb
   have z_BK406 := fun (h0_ : b 15 = true) (h1_ : b 20 = false) => (show w31.heap[gb406]? = some (.cells #[.int .i64 0, .int .i64 0] 24 (0, 0)) from by first | exact (blk_below (g := gb406) (o := .cells #[.int .i64 0, .int .i64 0] 24 (0, 0)) (by (with_reducible repeat (first | refine blk_drewN ?_ _ | refine blk_drew ?_ | refine blk_alloc ?_ _)); exact (Q2 h0_ h1_)) hb))
   have z_BK407 := fun (h0_ : b 16 = true) (h1_ : b 21 = false) => (show w31.heap[gb407]? = some (.cells #[.int .i64 0, .int .i64 0] 24 (0, 0)) from by first | exact (blk_below (g := gb407) (o := .cells #[.int .i64 0, .int .i64 0] 24 (0, 0)) (by (with_reducible repeat (first | refine blk_drewN ?_ _ | refine blk_drew ?_ | refine blk_alloc ?_ _)); exact (Q4 h0_ h1_)) hb))
   have z_BK408 := fun (h0_ : b 17 = true) (h1_ : b 22 = false) => (show w31.heap[gb408]? = some (.cells #[.int .i64 0, .int .i64 0] 24 (0, 0)) from by first | exact (blk_below (g := gb408) (o := .cells #[.int .i64 0, .int .i64 0] 24 (0, 0)) (by (with_reducible repeat (first | refine blk_drewN ?_ _ | refine blk_drew ?_ | refine blk_alloc ?_ _)); exact (Q6 h0_ h1_)) hb))
   have z_BK409 := fun (h0_ : b 18 = true) (h1_ : b 23 = false) => (show w31.heap[gb409]? = some (.cells #[.int .i64 0, .int .i64 0] 24 (0, 0)) from by first | exact (blk_below (g := gb409) (o := .cells #[.int .i64 0, .int .i64 0] 24 (0, 0)) (by (with_reducible repeat (first | refine blk_drewN ?_ _ | refine blk_drew ?_ | refine blk_alloc ?_ _)); exact (Q8 h0_ h1_)) hb))
   have z_BK410 := fun (h0_ : b 19 = true) (h1_ : b 24 = false) => (show w31.heap[gb410]? = some (.cells #[.int .i64 0, .int .i64 0] 24 (0, 0)) from by first | exact (blk_below (g := gb410) (o := .cells #[.int .i64 0, .int .i64 0] 24 (0, 0)) (by (with_reducible repeat (first | refine blk_drewN ?_ _ | refine blk_drew ?_ | refine blk_alloc ?_ _)); exact (Q10 h0_ h1_)) hb))
   clear BK394
   clear BK395
   clear HB
   have BK394 := n0_
   have BK395 := n1_
   have HB := n2_
   clear n0_ n1_ n2_
   (try clear hb)
   (try clear hb2)
   (try clear hk)
   (try clear hi)
   refine hK.out _ _ ⟨gb406, gb407, gb408, gb409, gb410, m15_, m16_, m17_, m18_, m19_, (by rw [ha.out]; exact putSel_upk 11 hb_ rfl rfl rfl), BK394.out, BK395.out, HB.out, Q41, Q35, Q47, Q36, Q53, Q37, Q59, Q38, Q48, Q42, Q54, Q43, Q60, Q44, Q55, Q49, Q61, Q50, Q62, Q56, z_BK406, Q17, Q12, Q23, Q33, Q28, Q34, z_BK407, Q18, Q13, Q24, Q39, Q29, Q40, z_BK408, Q19, Q14, Q25, Q45, Q30, Q46, z_BK409, Q20, Q15, Q26, Q51, Q31, Q52, z_BK410, Q21, Q16, Q27, Q57, Q32, Q58, fun h0_ => absurd ((hoff 20 (by kernel_rfl)).symm.trans h0_) (by decide), fun h0_ => absurd ((hoff 21 (by kernel_rfl)).symm.trans h0_) (by decide), fun h0_ => absurd ((hoff 22 (by kernel_rfl)).symm.trans h0_) (by decide), fun h0_ => absurd ((hoff 23 (by kernel_rfl)).symm.trans h0_) (by decide), fun h0_ => absurd ((hoff 24 (by kernel_rfl)).symm.trans h0_) (by decide), Q63, Q64, Q65, Q66, Q67⟩
  refine steps_cons ?_ ?_
  ·rintro b a w' ⟨gb406, gb407, gb408, gb409, gb410, m15_, m16_, m17_, m18_, m19_, ha, Q0, Q1, Q22, Q41, Q35, Q47, Q36, Q53, Q37, Q59, Q38, Q48, Q42, Q54, Q43, Q60, Q44, Q55, Q49, Q61, Q50, Q62, Q56, Q2, Q17, Q12, Q23, Q33, Q28, Q34, Q4, Q18, Q13, Q24, Q39, Q29, Q40, Q6, Q19, Q14, Q25, Q45, Q30, Q46, Q8, Q20, Q15, Q26, Q51, Q31, Q52, Q10, Q21, Q16, Q27, Q57, Q32, Q58, Q3, Q5, Q7, Q9, Q11, Q63, Q64, Q65, Q66, Q67⟩ hb_ hon hoff
   refine ⟨_, rfl, fun K hK => ?_⟩
   have e2 : a.tmps[2]? = some (.pointer (some ⟨gb394, 0, none⟩)) := by rw [ha]; exact (putSel_off rfl).trans rfl
   replace ha := Aside0.mk ha
   have BK394 := Aside0.mk Q0
   have BK395 := Aside0.mk Q1
   have HB := Aside0.mk Q22
   have hc0_ : w'.cell? ⟨gb394, 0, none⟩ = some (.int .i64 a0_0) := (blk_cell BK394.out 0).trans rfl
   have hc1_ : w'.cell? ⟨gb394, 1, none⟩ = some (.int .i64 a0_1) := (blk_cell BK394.out 1).trans rfl
   refine value_ (w1 := w') (v := .agg #[.int .i64 a0_0, .int .i64 a0_1]) (by rfl) rfl ?_ ?_
   ·go_simp
    (try simp only [i64_w])
    try rfl
   refine hK.out _ _ ⟨gb406, gb407, gb408, gb409, gb410, m15_, m16_, m17_, m18_, m19_, (by rw [ha.out]; exact putSel_upk 12 hb_ rfl rfl rfl), Q0, Q1, Q22, Q41, Q35, Q47, Q36, Q53, Q37, Q59, Q38, Q48, Q42, Q54, Q43, Q60, Q44, Q55, Q49, Q61, Q50, Q62, Q56, Q2, Q17, Q12, Q23, Q33, Q28, Q34, Q4, Q18, Q13, Q24, Q39, Q29, Q40, Q6, Q19, Q14, Q25, Q45, Q30, Q46, Q8, Q20, Q15, Q26, Q51, Q31, Q52, Q10, Q21, Q16, Q27, Q57, Q32, Q58, fun h0_ => absurd ((hoff 20 (by kernel_rfl)).symm.trans h0_) (by decide), fun h0_ => absurd ((hoff 21 (by kernel_rfl)).symm.trans h0_) (by decide), fun h0_ => absurd ((hoff 22 (by kernel_rfl)).symm.trans h0_) (by decide), fun h0_ => absurd ((hoff 23 (by kernel_rfl)).symm.trans h0_) (by decide), fun h0_ => absurd ((hoff 24 (by kernel_rfl)).symm.trans h0_) (by decide), Q63, Q64, Q65, Q66, Q67⟩
  refine steps_cons ?_ ?_
  ·rintro b a w' ⟨gb406, gb407, gb408, gb409, gb410, m15_, m16_, m17_, m18_, m19_, ha, Q0, Q1, Q22, Q41, Q35, Q47, Q36, Q53, Q37, Q59, Q38, Q48, Q42, Q54, Q43, Q60, Q44, Q55, Q49, Q61, Q50, Q62, Q56, Q2, Q17, Q12, Q23, Q33, Q28, Q34, Q4, Q18, Q13, Q24, Q39, Q29, Q40, Q6, Q19, Q14, Q25, Q45, Q30, Q46, Q8, Q20, Q15, Q26, Q51, Q31, Q52, Q10, Q21, Q16, Q27, Q57, Q32, Q58, Q3, Q5, Q7, Q9, Q11, Q63, Q64, Q65, Q66, Q67⟩ hb_ hon hoff
   refine ⟨_, rfl, fun K hK => ?_⟩
   have e3 : a.tmps[3]? = some (.pointer (some ⟨gb395, 0, none⟩)) := by rw [ha]; exact (putSel_off rfl).trans rfl
   replace ha := Aside0.mk ha
   have BK394 := Aside0.mk Q0
   have BK395 := Aside0.mk Q1
   have HB := Aside0.mk Q22
   have hc0_ : w'.cell? ⟨gb395, 0, none⟩ = some (.int .i64 a1_0) := (blk_cell BK395.out 0).trans rfl
   have hc1_ : w'.cell? ⟨gb395, 1, none⟩ = some (.int .i64 a1_1) := (blk_cell BK395.out 1).trans rfl
   refine value_ (w1 := w') (v := .agg #[.int .i64 a1_0, .int .i64 a1_1]) (by rfl) rfl ?_ ?_
   ·go_simp
    (try simp only [i64_w])
    try rfl
   refine hK.out _ _ ⟨gb406, gb407, gb408, gb409, gb410, m15_, m16_, m17_, m18_, m19_, (by rw [ha.out]; exact putSel_upk 13 hb_ rfl rfl rfl), Q0, Q1, Q22, Q41, Q35, Q47, Q36, Q53, Q37, Q59, Q38, Q48, Q42, Q54, Q43, Q60, Q44, Q55, Q49, Q61, Q50, Q62, Q56, Q2, Q17, Q12, Q23, Q33, Q28, Q34, Q4, Q18, Q13, Q24, Q39, Q29, Q40, Q6, Q19, Q14, Q25, Q45, Q30, Q46, Q8, Q20, Q15, Q26, Q51, Q31, Q52, Q10, Q21, Q16, Q27, Q57, Q32, Q58, fun h0_ => absurd ((hoff 20 (by kernel_rfl)).symm.trans h0_) (by decide), fun h0_ => absurd ((hoff 21 (by kernel_rfl)).symm.trans h0_) (by decide), fun h0_ => absurd ((hoff 22 (by kernel_rfl)).symm.trans h0_) (by decide), fun h0_ => absurd ((hoff 23 (by kernel_rfl)).symm.trans h0_) (by decide), fun h0_ => absurd ((hoff 24 (by kernel_rfl)).symm.trans h0_) (by decide), Q63, Q64, Q65, Q66, Q67⟩
  refine steps_cons ?_ ?_
  ·rintro b a w' ⟨gb406, gb407, gb408, gb409, gb410, m15_, m16_, m17_, m18_, m19_, ha, Q0, Q1, Q22, Q41, Q35, Q47, Q36, Q53, Q37, Q59, Q38, Q48, Q42, Q54, Q43, Q60, Q44, Q55, Q49, Q61, Q50, Q62, Q56, Q2, Q17, Q12, Q23, Q33, Q28, Q34, Q4, Q18, Q13, Q24, Q39, Q29, Q40, Q6, Q19, Q14, Q25, Q45, Q30, Q46, Q8, Q20, Q15, Q26, Q51, Q31, Q52, Q10, Q21, Q16, Q27, Q57, Q32, Q58, Q3, Q5, Q7, Q9, Q11, Q63, Q64, Q65, Q66, Q67⟩ hb_ hon hoff
   refine ⟨_, rfl, fun K hK => ?_⟩
   have e22 : a.tmps[22]? = some (.agg #[.int .i64 a0_0, .int .i64 a0_1]) := by rw [ha]; exact putSel_on (e := (12, 22, .agg #[.int .i64 a0_0, .int .i64 a0_1])) 12 rfl rfl (hon 12 (by kernel_rfl)) rfl
   have e23 : a.tmps[23]? = some (.agg #[.int .i64 a1_0, .int .i64 a1_1]) := by rw [ha]; exact putSel_on (e := (13, 23, .agg #[.int .i64 a1_0, .int .i64 a1_1])) 13 rfl rfl (hon 13 (by kernel_rfl)) rfl
   replace ha := Aside0.mk ha
   have BK394 := Aside0.mk Q0
   have BK395 := Aside0.mk Q1
   have HB := Aside0.mk Q22
   refine goes_ Tryz.func23 (by kernel_rfl) rfl #[.agg #[.int .i64 a0_0, .int .i64 a0_1], .agg #[.int .i64 a1_0, .int .i64 a1_1]] (by rfl) rfl rfl (by first | (simp only [List.map_toArray, List.map_cons, List.map_nil, Act.eval, Array.getD_eq_getD_getElem?, Option.getD_some, e22, e23]; done) | (simp only [List.map_toArray, List.map_cons, List.map_nil, Act.eval, Array.getD_eq_getD_getElem?, Option.getD_some, e22, e23]; rfl)) ?_
   with_reducible refine (xnum_Mod.calls k a0_0 a0_1 a1_0 a1_1 t404 t405 _ ?side1 A7.out).mono ?_
   (case side1 => first | exact HLD | exact Laid.below HLD HB.out)
   rintro e w32 ⟨rfl, hb⟩
   refine ⟨_, rfl, ?_⟩
   have n0_ := zb BK394 hb
   have n1_ := zb BK395 hb
   have n2_ := zs HB hb
   have z_BK406 := fun (h0_ : b 15 = true) (h1_ : b 20 = false) => (show w32.heap[gb406]? = some (.cells #[.int .i64 0, .int .i64 0] 24 (0, 0)) from by first | exact (blk_below (g := gb406) (o := .cells #[.int .i64 0, .int .i64 0] 24 (0, 0)) (by (with_reducible repeat (first | refine blk_drewN ?_ _ | refine blk_drew ?_ | refine blk_alloc ?_ _)); exact (Q2 h0_ h1_)) hb))
   have z_BK407 := fun (h0_ : b 16 = true) (h1_ : b 21 = false) => (show w32.heap[gb407]? = some (.cells #[.int .i64 0, .int .i64 0] 24 (0, 0)) from by first | exact (blk_below (g := gb407) (o := .cells #[.int .i64 0, .int .i64 0] 24 (0, 0)) (by (with_reducible repeat (first | refine blk_drewN ?_ _ | refine blk_drew ?_ | refine blk_alloc ?_ _)); exact (Q4 h0_ h1_)) hb))
   have z_BK408 := fun (h0_ : b 17 = true) (h1_ : b 22 = false) => (show w32.heap[gb408]? = some (.cells #[.int .i64 0, .int .i64 0] 24 (0, 0)) from by first | exact (blk_below (g := gb408) (o := .cells #[.int .i64 0, .int .i64 0] 24 (0, 0)) (by (with_reducible repeat (first | refine blk_drewN ?_ _ | refine blk_drew ?_ | refine blk_alloc ?_ _)); exact (Q6 h0_ h1_)) hb))
   have z_BK409 := fun (h0_ : b 18 = true) (h1_ : b 23 = false) => (show w32.heap[gb409]? = some (.cells #[.int .i64 0, .int .i64 0] 24 (0, 0)) from by first | exact (blk_below (g := gb409) (o := .cells #[.int .i64 0, .int .i64 0] 24 (0, 0)) (by (with_reducible repeat (first | refine blk_drewN ?_ _ | refine blk_drew ?_ | refine blk_alloc ?_ _)); exact (Q8 h0_ h1_)) hb))
   have z_BK410 := fun (h0_ : b 19 = true) (h1_ : b 24 = false) => (show w32.heap[gb410]? = some (.cells #[.int .i64 0, .int .i64 0] 24 (0, 0)) from by first | exact (blk_below (g := gb410) (o := .cells #[.int .i64 0, .int .i64 0] 24 (0, 0)) (by (with_reducible repeat (first | refine blk_drewN ?_ _ | refine blk_drew ?_ | refine blk_alloc ?_ _)); exact (Q10 h0_ h1_)) hb))
   clear BK394
   clear BK395
   clear HB
   have BK394 := n0_
   have BK395 := n1_
   have HB := n2_
   clear n0_ n1_ n2_
   (try clear hb)
   (try clear hb2)
   (try clear hk)
   (try clear hi)
   refine hK.out _ _ ⟨gb406, gb407, gb408, gb409, gb410, m15_, m16_, m17_, m18_, m19_, (by rw [ha.out]; exact putSel_upk 14 hb_ rfl rfl rfl), BK394.out, BK395.out, HB.out, Q41, Q35, Q47, Q36, Q53, Q37, Q59, Q38, Q48, Q42, Q54, Q43, Q60, Q44, Q55, Q49, Q61, Q50, Q62, Q56, z_BK406, Q17, Q12, Q23, Q33, Q28, Q34, z_BK407, Q18, Q13, Q24, Q39, Q29, Q40, z_BK408, Q19, Q14, Q25, Q45, Q30, Q46, z_BK409, Q20, Q15, Q26, Q51, Q31, Q52, z_BK410, Q21, Q16, Q27, Q57, Q32, Q58, fun h0_ => absurd ((hoff 20 (by kernel_rfl)).symm.trans h0_) (by decide), fun h0_ => absurd ((hoff 21 (by kernel_rfl)).symm.trans h0_) (by decide), fun h0_ => absurd ((hoff 22 (by kernel_rfl)).symm.trans h0_) (by decide), fun h0_ => absurd ((hoff 23 (by kernel_rfl)).symm.trans h0_) (by decide), fun h0_ => absurd ((hoff 24 (by kernel_rfl)).symm.trans h0_) (by decide), Q63, Q64, Q65, Q66, Q67⟩
  refine steps_cons ?_ ?_
  ·rintro b a w' ⟨gb406, gb407, gb408, gb409, gb410, m15_, m16_, m17_, m18_, m19_, ha, Q0, Q1, Q22, Q41, Q35, Q47, Q36, Q53, Q37, Q59, Q38, Q48, Q42, Q54, Q43, Q60, Q44, Q55, Q49, Q61, Q50, Q62, Q56, Q2, Q17, Q12, Q23, Q33, Q28, Q34, Q4, Q18, Q13, Q24, Q39, Q29, Q40, Q6, Q19, Q14, Q25, Q45, Q30, Q46, Q8, Q20, Q15, Q26, Q51, Q31, Q52, Q10, Q21, Q16, Q27, Q57, Q32, Q58, Q3, Q5, Q7, Q9, Q11, Q63, Q64, Q65, Q66, Q67⟩ hb_ hon hoff
   refine ⟨_, rfl, fun K hK => ?_⟩
   replace ha := Aside0.mk ha
   have BK394 := Aside0.mk Q0
   have BK395 := Aside0.mk Q1
   have HB := Aside0.mk Q22
   refine box_step ?hg (N := 5) ?hd (cs := #[.int .i64 0, .int .i64 0]) (t := 24) ?hr ?_; (case hd => rfl); (case hg => rfl); (case hr => first | (go_simp; done) | (go_simp; rfl))
   intro gb406 hg w27 hbox hb
   have n0_ := zb BK394 hb
   have n1_ := zb BK395 hb
   have n2_ := zs HB hb
   have n3_ := Aside0.mk (hbox)
   have n4_ := Aside0.mk ((by rw [hg]; exact (below_size HB.out) : w.heap.size ≤ gb406))
   have n5_ := Aside0.mk ((by rw [hg]; exact (below_size HB.out) : w.heap.size ≤ gb406))
   have n6_ := Aside0.mk ((by rw [hg]; exact Nat.ne_of_lt (blk_lt (g := gb394) (o := .cells #[.int .i64 a0_0, .int .i64 a0_1] 24 (0, 0)) BK394.out) : gb394 ≠ gb406))
   have n7_ := Aside0.mk ((by rw [hg]; exact Nat.ne_of_gt (blk_lt (g := gb394) (o := .cells #[.int .i64 a0_0, .int .i64 a0_1] 24 (0, 0)) BK394.out) : gb406 ≠ gb394))
   have n8_ := Aside0.mk ((by rw [hg]; exact Nat.ne_of_lt (blk_lt (g := gb395) (o := .cells #[.int .i64 a1_0, .int .i64 a1_1] 24 (0, 0)) BK395.out) : gb395 ≠ gb406))
   have n9_ := Aside0.mk ((by rw [hg]; exact Nat.ne_of_gt (blk_lt (g := gb395) (o := .cells #[.int .i64 a1_0, .int .i64 a1_1] 24 (0, 0)) BK395.out) : gb406 ≠ gb395))
   have z_NB407_406 := fun (h0_ : up b 15 15 = true) (h1_ : up b 15 16 = true) => (show gb407 ≠ gb406 from ((by rw [hg]; exact Nat.ne_of_lt (blk_lt (g := gb407) (o := .cells #[.int .i64 0, .int .i64 0] 24 (0, 0)) (by (with_reducible repeat (first | refine blk_drewN ?_ _ | refine blk_drew ?_ | refine blk_alloc ?_ _)); exact (Q4 (show b 16 = true from h1_) (hoff 21 (by kernel_rfl))))) : gb407 ≠ gb406)))
   have z_NB406_407 := fun (h0_ : up b 15 15 = true) (h1_ : up b 15 16 = true) => (show gb406 ≠ gb407 from ((by rw [hg]; exact Nat.ne_of_gt (blk_lt (g := gb407) (o := .cells #[.int .i64 0, .int .i64 0] 24 (0, 0)) (by (with_reducible repeat (first | refine blk_drewN ?_ _ | refine blk_drew ?_ | refine blk_alloc ?_ _)); exact (Q4 (show b 16 = true from h1_) (hoff 21 (by kernel_rfl))))) : gb406 ≠ gb407)))
   have z_NB408_406 := fun (h0_ : up b 15 15 = true) (h1_ : up b 15 17 = true) => (show gb408 ≠ gb406 from ((by rw [hg]; exact Nat.ne_of_lt (blk_lt (g := gb408) (o := .cells #[.int .i64 0, .int .i64 0] 24 (0, 0)) (by (with_reducible repeat (first | refine blk_drewN ?_ _ | refine blk_drew ?_ | refine blk_alloc ?_ _)); exact (Q6 (show b 17 = true from h1_) (hoff 22 (by kernel_rfl))))) : gb408 ≠ gb406)))
   have z_NB406_408 := fun (h0_ : up b 15 15 = true) (h1_ : up b 15 17 = true) => (show gb406 ≠ gb408 from ((by rw [hg]; exact Nat.ne_of_gt (blk_lt (g := gb408) (o := .cells #[.int .i64 0, .int .i64 0] 24 (0, 0)) (by (with_reducible repeat (first | refine blk_drewN ?_ _ | refine blk_drew ?_ | refine blk_alloc ?_ _)); exact (Q6 (show b 17 = true from h1_) (hoff 22 (by kernel_rfl))))) : gb406 ≠ gb408)))
   have z_NB409_406 := fun (h0_ : up b 15 15 = true) (h1_ : up b 15 18 = true) => (show gb409 ≠ gb406 from ((by rw [hg]; exact Nat.ne_of_lt (blk_lt (g := gb409) (o := .cells #[.int .i64 0, .int .i64 0] 24 (0, 0)) (by (with_reducible repeat (first | refine blk_drewN ?_ _ | refine blk_drew ?_ | refine blk_alloc ?_ _)); exact (Q8 (show b 18 = true from h1_) (hoff 23 (by kernel_rfl))))) : gb409 ≠ gb406)))
   have z_NB406_409 := fun (h0_ : up b 15 15 = true) (h1_ : up b 15 18 = true) => (show gb406 ≠ gb409 from ((by rw [hg]; exact Nat.ne_of_gt (blk_lt (g := gb409) (o := .cells #[.int .i64 0, .int .i64 0] 24 (0, 0)) (by (with_reducible repeat (first | refine blk_drewN ?_ _ | refine blk_drew ?_ | refine blk_alloc ?_ _)); exact (Q8 (show b 18 = true from h1_) (hoff 23 (by kernel_rfl))))) : gb406 ≠ gb409)))
   have z_NB410_406 := fun (h0_ : up b 15 15 = true) (h1_ : up b 15 19 = true) => (show gb410 ≠ gb406 from ((by rw [hg]; exact Nat.ne_of_lt (blk_lt (g := gb410) (o := .cells #[.int .i64 0, .int .i64 0] 24 (0, 0)) (by (with_reducible repeat (first | refine blk_drewN ?_ _ | refine blk_drew ?_ | refine blk_alloc ?_ _)); exact (Q10 (show b 19 = true from h1_) (hoff 24 (by kernel_rfl))))) : gb410 ≠ gb406)))
   have z_NB406_410 := fun (h0_ : up b 15 15 = true) (h1_ : up b 15 19 = true) => (show gb406 ≠ gb410 from ((by rw [hg]; exact Nat.ne_of_gt (blk_lt (g := gb410) (o := .cells #[.int .i64 0, .int .i64 0] 24 (0, 0)) (by (with_reducible repeat (first | refine blk_drewN ?_ _ | refine blk_drew ?_ | refine blk_alloc ?_ _)); exact (Q10 (show b 19 = true from h1_) (hoff 24 (by kernel_rfl))))) : gb406 ≠ gb410)))
   have z_BK407 := fun (h0_ : b 16 = true) (h1_ : b 21 = false) => (show w27.heap[gb407]? = some (.cells #[.int .i64 0, .int .i64 0] 24 (0, 0)) from by first | exact (blk_below (g := gb407) (o := .cells #[.int .i64 0, .int .i64 0] 24 (0, 0)) (by (with_reducible repeat (first | refine blk_drewN ?_ _ | refine blk_drew ?_ | refine blk_alloc ?_ _)); exact (Q4 h0_ h1_)) hb))
   have z_BK408 := fun (h0_ : b 17 = true) (h1_ : b 22 = false) => (show w27.heap[gb408]? = some (.cells #[.int .i64 0, .int .i64 0] 24 (0, 0)) from by first | exact (blk_below (g := gb408) (o := .cells #[.int .i64 0, .int .i64 0] 24 (0, 0)) (by (with_reducible repeat (first | refine blk_drewN ?_ _ | refine blk_drew ?_ | refine blk_alloc ?_ _)); exact (Q6 h0_ h1_)) hb))
   have z_BK409 := fun (h0_ : b 18 = true) (h1_ : b 23 = false) => (show w27.heap[gb409]? = some (.cells #[.int .i64 0, .int .i64 0] 24 (0, 0)) from by first | exact (blk_below (g := gb409) (o := .cells #[.int .i64 0, .int .i64 0] 24 (0, 0)) (by (with_reducible repeat (first | refine blk_drewN ?_ _ | refine blk_drew ?_ | refine blk_alloc ?_ _)); exact (Q8 h0_ h1_)) hb))
   have z_BK410 := fun (h0_ : b 19 = true) (h1_ : b 24 = false) => (show w27.heap[gb410]? = some (.cells #[.int .i64 0, .int .i64 0] 24 (0, 0)) from by first | exact (blk_below (g := gb410) (o := .cells #[.int .i64 0, .int .i64 0] 24 (0, 0)) (by (with_reducible repeat (first | refine blk_drewN ?_ _ | refine blk_drew ?_ | refine blk_alloc ?_ _)); exact (Q10 h0_ h1_)) hb))
   clear BK394
   clear BK395
   clear HB
   have BK394 := n0_
   have BK395 := n1_
   have HB := n2_
   have BK406 := n3_
   have GW406 := n4_
   have GE406 := n5_
   have NB394_406 := n6_
   have NB406_394 := n7_
   have NB395_406 := n8_
   have NB406_395 := n9_
   clear n0_ n1_ n2_ n3_ n4_ n5_ n6_ n7_ n8_ n9_
   clear hb hbox hg
   refine hK.out _ _ ⟨gb406, gb407, gb408, gb409, gb410, (.pointer (some ⟨gb406, 0, none⟩)), m16_, m17_, m18_, m19_, (by rw [ha.out]; exact putSel_upk 15 hb_ rfl rfl rfl), BK394.out, BK395.out, HB.out, @z_NB407_406, @z_NB406_407, @z_NB408_406, @z_NB406_408, @z_NB409_406, @z_NB406_409, @z_NB410_406, @z_NB406_410, Q48, Q42, Q54, Q43, Q60, Q44, Q55, Q49, Q61, Q50, Q62, Q56, fun _ _ => BK406.out, fun _ => GW406.out, fun _ => GE406.out, fun _ => NB394_406.out, fun _ => NB406_394.out, fun _ => NB395_406.out, fun _ => NB406_395.out, z_BK407, Q18, Q13, Q24, Q39, Q29, Q40, z_BK408, Q19, Q14, Q25, Q45, Q30, Q46, z_BK409, Q20, Q15, Q26, Q51, Q31, Q52, z_BK410, Q21, Q16, Q27, Q57, Q32, Q58, fun h0_ => absurd ((hoff 20 (by kernel_rfl)).symm.trans h0_) (by decide), fun h0_ => absurd ((hoff 21 (by kernel_rfl)).symm.trans h0_) (by decide), fun h0_ => absurd ((hoff 22 (by kernel_rfl)).symm.trans h0_) (by decide), fun h0_ => absurd ((hoff 23 (by kernel_rfl)).symm.trans h0_) (by decide), fun h0_ => absurd ((hoff 24 (by kernel_rfl)).symm.trans h0_) (by decide), fun _ => rfl, Q64, Q65, Q66, Q67⟩
  refine steps_cons ?_ ?_
  ·rintro b a w' ⟨gb406, gb407, gb408, gb409, gb410, m15_, m16_, m17_, m18_, m19_, ha, Q0, Q1, Q22, Q41, Q35, Q47, Q36, Q53, Q37, Q59, Q38, Q48, Q42, Q54, Q43, Q60, Q44, Q55, Q49, Q61, Q50, Q62, Q56, Q2, Q17, Q12, Q23, Q33, Q28, Q34, Q4, Q18, Q13, Q24, Q39, Q29, Q40, Q6, Q19, Q14, Q25, Q45, Q30, Q46, Q8, Q20, Q15, Q26, Q51, Q31, Q52, Q10, Q21, Q16, Q27, Q57, Q32, Q58, Q3, Q5, Q7, Q9, Q11, Q63, Q64, Q65, Q66, Q67⟩ hb_ hon hoff
   refine ⟨_, rfl, fun K hK => ?_⟩
   replace ha := Aside0.mk ha
   have BK394 := Aside0.mk Q0
   have BK395 := Aside0.mk Q1
   have HB := Aside0.mk Q22
   refine box_step ?hg (N := 6) ?hd (cs := #[.int .i64 0, .int .i64 0]) (t := 24) ?hr ?_; (case hd => rfl); (case hg => rfl); (case hr => first | (go_simp; done) | (go_simp; rfl))
   intro gb407 hg w27 hbox hb
   have n0_ := zb BK394 hb
   have n1_ := zb BK395 hb
   have n2_ := zs HB hb
   have n3_ := Aside0.mk (hbox)
   have n4_ := Aside0.mk ((by rw [hg]; exact (below_size HB.out) : w.heap.size ≤ gb407))
   have n5_ := Aside0.mk ((by rw [hg]; exact (below_size HB.out) : w.heap.size ≤ gb407))
   have n6_ := Aside0.mk ((by rw [hg]; exact Nat.ne_of_lt (blk_lt (g := gb394) (o := .cells #[.int .i64 a0_0, .int .i64 a0_1] 24 (0, 0)) BK394.out) : gb394 ≠ gb407))
   have n7_ := Aside0.mk ((by rw [hg]; exact Nat.ne_of_gt (blk_lt (g := gb394) (o := .cells #[.int .i64 a0_0, .int .i64 a0_1] 24 (0, 0)) BK394.out) : gb407 ≠ gb394))
   have n8_ := Aside0.mk ((by rw [hg]; exact Nat.ne_of_lt (blk_lt (g := gb395) (o := .cells #[.int .i64 a1_0, .int .i64 a1_1] 24 (0, 0)) BK395.out) : gb395 ≠ gb407))
   have n9_ := Aside0.mk ((by rw [hg]; exact Nat.ne_of_gt (blk_lt (g := gb395) (o := .cells #[.int .i64 a1_0, .int .i64 a1_1] 24 (0, 0)) BK395.out) : gb407 ≠ gb395))
   have z_NB407_406 := fun (h0_ : up b 16 15 = true) (h1_ : up b 16 16 = true) => (show gb407 ≠ gb406 from ((by rw [hg]; exact Nat.ne_of_gt (blk_lt (g := gb406) (o := .cells #[.int .i64 0, .int .i64 0] 24 (0, 0)) (by (with_reducible repeat (first | refine blk_drewN ?_ _ | refine blk_drew ?_ | refine blk_alloc ?_ _)); exact (Q2 (show b 15 = true from h0_) (hoff 20 (by kernel_rfl))))) : gb407 ≠ gb406)))
   have z_NB406_407 := fun (h0_ : up b 16 15 = true) (h1_ : up b 16 16 = true) => (show gb406 ≠ gb407 from ((by rw [hg]; exact Nat.ne_of_lt (blk_lt (g := gb406) (o := .cells #[.int .i64 0, .int .i64 0] 24 (0, 0)) (by (with_reducible repeat (first | refine blk_drewN ?_ _ | refine blk_drew ?_ | refine blk_alloc ?_ _)); exact (Q2 (show b 15 = true from h0_) (hoff 20 (by kernel_rfl))))) : gb406 ≠ gb407)))
   have z_NB408_407 := fun (h0_ : up b 16 16 = true) (h1_ : up b 16 17 = true) => (show gb408 ≠ gb407 from ((by rw [hg]; exact Nat.ne_of_lt (blk_lt (g := gb408) (o := .cells #[.int .i64 0, .int .i64 0] 24 (0, 0)) (by (with_reducible repeat (first | refine blk_drewN ?_ _ | refine blk_drew ?_ | refine blk_alloc ?_ _)); exact (Q6 (show b 17 = true from h1_) (hoff 22 (by kernel_rfl))))) : gb408 ≠ gb407)))
   have z_NB407_408 := fun (h0_ : up b 16 16 = true) (h1_ : up b 16 17 = true) => (show gb407 ≠ gb408 from ((by rw [hg]; exact Nat.ne_of_gt (blk_lt (g := gb408) (o := .cells #[.int .i64 0, .int .i64 0] 24 (0, 0)) (by (with_reducible repeat (first | refine blk_drewN ?_ _ | refine blk_drew ?_ | refine blk_alloc ?_ _)); exact (Q6 (show b 17 = true from h1_) (hoff 22 (by kernel_rfl))))) : gb407 ≠ gb408)))
   have z_NB409_407 := fun (h0_ : up b 16 16 = true) (h1_ : up b 16 18 = true) => (show gb409 ≠ gb407 from ((by rw [hg]; exact Nat.ne_of_lt (blk_lt (g := gb409) (o := .cells #[.int .i64 0, .int .i64 0] 24 (0, 0)) (by (with_reducible repeat (first | refine blk_drewN ?_ _ | refine blk_drew ?_ | refine blk_alloc ?_ _)); exact (Q8 (show b 18 = true from h1_) (hoff 23 (by kernel_rfl))))) : gb409 ≠ gb407)))
   have z_NB407_409 := fun (h0_ : up b 16 16 = true) (h1_ : up b 16 18 = true) => (show gb407 ≠ gb409 from ((by rw [hg]; exact Nat.ne_of_gt (blk_lt (g := gb409) (o := .cells #[.int .i64 0, .int .i64 0] 24 (0, 0)) (by (with_reducible repeat (first | refine blk_drewN ?_ _ | refine blk_drew ?_ | refine blk_alloc ?_ _)); exact (Q8 (show b 18 = true from h1_) (hoff 23 (by kernel_rfl))))) : gb407 ≠ gb409)))
   have z_NB410_407 := fun (h0_ : up b 16 16 = true) (h1_ : up b 16 19 = true) => (show gb410 ≠ gb407 from ((by rw [hg]; exact Nat.ne_of_lt (blk_lt (g := gb410) (o := .cells #[.int .i64 0, .int .i64 0] 24 (0, 0)) (by (with_reducible repeat (first | refine blk_drewN ?_ _ | refine blk_drew ?_ | refine blk_alloc ?_ _)); exact (Q10 (show b 19 = true from h1_) (hoff 24 (by kernel_rfl))))) : gb410 ≠ gb407)))
   have z_NB407_410 := fun (h0_ : up b 16 16 = true) (h1_ : up b 16 19 = true) => (show gb407 ≠ gb410 from ((by rw [hg]; exact Nat.ne_of_gt (blk_lt (g := gb410) (o := .cells #[.int .i64 0, .int .i64 0] 24 (0, 0)) (by (with_reducible repeat (first | refine blk_drewN ?_ _ | refine blk_drew ?_ | refine blk_alloc ?_ _)); exact (Q10 (show b 19 = true from h1_) (hoff 24 (by kernel_rfl))))) : gb407 ≠ gb410)))
   have z_BK406 := fun (h0_ : b 15 = true) (h1_ : b 20 = false) => (show w27.heap[gb406]? = some (.cells #[.int .i64 0, .int .i64 0] 24 (0, 0)) from by first | exact (blk_below (g := gb406) (o := .cells #[.int .i64 0, .int .i64 0] 24 (0, 0)) (by (with_reducible repeat (first | refine blk_drewN ?_ _ | refine blk_drew ?_ | refine blk_alloc ?_ _)); exact (Q2 h0_ h1_)) hb))
   have z_BK408 := fun (h0_ : b 17 = true) (h1_ : b 22 = false) => (show w27.heap[gb408]? = some (.cells #[.int .i64 0, .int .i64 0] 24 (0, 0)) from by first | exact (blk_below (g := gb408) (o := .cells #[.int .i64 0, .int .i64 0] 24 (0, 0)) (by (with_reducible repeat (first | refine blk_drewN ?_ _ | refine blk_drew ?_ | refine blk_alloc ?_ _)); exact (Q6 h0_ h1_)) hb))
   have z_BK409 := fun (h0_ : b 18 = true) (h1_ : b 23 = false) => (show w27.heap[gb409]? = some (.cells #[.int .i64 0, .int .i64 0] 24 (0, 0)) from by first | exact (blk_below (g := gb409) (o := .cells #[.int .i64 0, .int .i64 0] 24 (0, 0)) (by (with_reducible repeat (first | refine blk_drewN ?_ _ | refine blk_drew ?_ | refine blk_alloc ?_ _)); exact (Q8 h0_ h1_)) hb))
   have z_BK410 := fun (h0_ : b 19 = true) (h1_ : b 24 = false) => (show w27.heap[gb410]? = some (.cells #[.int .i64 0, .int .i64 0] 24 (0, 0)) from by first | exact (blk_below (g := gb410) (o := .cells #[.int .i64 0, .int .i64 0] 24 (0, 0)) (by (with_reducible repeat (first | refine blk_drewN ?_ _ | refine blk_drew ?_ | refine blk_alloc ?_ _)); exact (Q10 h0_ h1_)) hb))
   clear BK394
   clear BK395
   clear HB
   have BK394 := n0_
   have BK395 := n1_
   have HB := n2_
   have BK407 := n3_
   have GW407 := n4_
   have GE407 := n5_
   have NB394_407 := n6_
   have NB407_394 := n7_
   have NB395_407 := n8_
   have NB407_395 := n9_
   clear n0_ n1_ n2_ n3_ n4_ n5_ n6_ n7_ n8_ n9_
   clear hb hbox hg
   refine hK.out _ _ ⟨gb406, gb407, gb408, gb409, gb410, m15_, (.pointer (some ⟨gb407, 0, none⟩)), m17_, m18_, m19_, (by rw [ha.out]; exact putSel_upk 16 hb_ rfl rfl rfl), BK394.out, BK395.out, HB.out, @z_NB407_406, @z_NB406_407, Q47, Q36, Q53, Q37, Q59, Q38, @z_NB408_407, @z_NB407_408, @z_NB409_407, @z_NB407_409, @z_NB410_407, @z_NB407_410, Q55, Q49, Q61, Q50, Q62, Q56, z_BK406, Q17, Q12, Q23, Q33, Q28, Q34, fun _ _ => BK407.out, fun _ => GW407.out, fun _ => GE407.out, fun _ => NB394_407.out, fun _ => NB407_394.out, fun _ => NB395_407.out, fun _ => NB407_395.out, z_BK408, Q19, Q14, Q25, Q45, Q30, Q46, z_BK409, Q20, Q15, Q26, Q51, Q31, Q52, z_BK410, Q21, Q16, Q27, Q57, Q32, Q58, fun h0_ => absurd ((hoff 20 (by kernel_rfl)).symm.trans h0_) (by decide), fun h0_ => absurd ((hoff 21 (by kernel_rfl)).symm.trans h0_) (by decide), fun h0_ => absurd ((hoff 22 (by kernel_rfl)).symm.trans h0_) (by decide), fun h0_ => absurd ((hoff 23 (by kernel_rfl)).symm.trans h0_) (by decide), fun h0_ => absurd ((hoff 24 (by kernel_rfl)).symm.trans h0_) (by decide), Q63, fun _ => rfl, Q65, Q66, Q67⟩
  refine steps_cons ?_ ?_
  ·rintro b a w' ⟨gb406, gb407, gb408, gb409, gb410, m15_, m16_, m17_, m18_, m19_, ha, Q0, Q1, Q22, Q41, Q35, Q47, Q36, Q53, Q37, Q59, Q38, Q48, Q42, Q54, Q43, Q60, Q44, Q55, Q49, Q61, Q50, Q62, Q56, Q2, Q17, Q12, Q23, Q33, Q28, Q34, Q4, Q18, Q13, Q24, Q39, Q29, Q40, Q6, Q19, Q14, Q25, Q45, Q30, Q46, Q8, Q20, Q15, Q26, Q51, Q31, Q52, Q10, Q21, Q16, Q27, Q57, Q32, Q58, Q3, Q5, Q7, Q9, Q11, Q63, Q64, Q65, Q66, Q67⟩ hb_ hon hoff
   refine ⟨_, rfl, fun K hK => ?_⟩
   replace ha := Aside0.mk ha
   have BK394 := Aside0.mk Q0
   have BK395 := Aside0.mk Q1
   have HB := Aside0.mk Q22
   refine box_step ?hg (N := 7) ?hd (cs := #[.int .i64 0, .int .i64 0]) (t := 24) ?hr ?_; (case hd => rfl); (case hg => rfl); (case hr => first | (go_simp; done) | (go_simp; rfl))
   intro gb408 hg w27 hbox hb
   have n0_ := zb BK394 hb
   have n1_ := zb BK395 hb
   have n2_ := zs HB hb
   have n3_ := Aside0.mk (hbox)
   have n4_ := Aside0.mk ((by rw [hg]; exact (below_size HB.out) : w.heap.size ≤ gb408))
   have n5_ := Aside0.mk ((by rw [hg]; exact (below_size HB.out) : w.heap.size ≤ gb408))
   have n6_ := Aside0.mk ((by rw [hg]; exact Nat.ne_of_lt (blk_lt (g := gb394) (o := .cells #[.int .i64 a0_0, .int .i64 a0_1] 24 (0, 0)) BK394.out) : gb394 ≠ gb408))
   have n7_ := Aside0.mk ((by rw [hg]; exact Nat.ne_of_gt (blk_lt (g := gb394) (o := .cells #[.int .i64 a0_0, .int .i64 a0_1] 24 (0, 0)) BK394.out) : gb408 ≠ gb394))
   have n8_ := Aside0.mk ((by rw [hg]; exact Nat.ne_of_lt (blk_lt (g := gb395) (o := .cells #[.int .i64 a1_0, .int .i64 a1_1] 24 (0, 0)) BK395.out) : gb395 ≠ gb408))
   have n9_ := Aside0.mk ((by rw [hg]; exact Nat.ne_of_gt (blk_lt (g := gb395) (o := .cells #[.int .i64 a1_0, .int .i64 a1_1] 24 (0, 0)) BK395.out) : gb408 ≠ gb395))
   have z_NB408_406 := fun (h0_ : up b 17 15 = true) (h1_ : up b 17 17 = true) => (show gb408 ≠ gb406 from ((by rw [hg]; exact Nat.ne_of_gt (blk_lt (g := gb406) (o := .cells #[.int .i64 0, .int .i64 0] 24 (0, 0)) (by (with_reducible repeat (first | refine blk_drewN ?_ _ | refine blk_drew ?_ | refine blk_alloc ?_ _)); exact (Q2 (show b 15 = true from h0_) (hoff 20 (by kernel_rfl))))) : gb408 ≠ gb406)))
   have z_NB406_408 := fun (h0_ : up b 17 15 = true) (h1_ : up b 17 17 = true) => (show gb406 ≠ gb408 from ((by rw [hg]; exact Nat.ne_of_lt (blk_lt (g := gb406) (o := .cells #[.int .i64 0, .int .i64 0] 24 (0, 0)) (by (with_reducible repeat (first | refine blk_drewN ?_ _ | refine blk_drew ?_ | refine blk_alloc ?_ _)); exact (Q2 (show b 15 = true from h0_) (hoff 20 (by kernel_rfl))))) : gb406 ≠ gb408)))
   have z_NB408_407 := fun (h0_ : up b 17 16 = true) (h1_ : up b 17 17 = true) => (show gb408 ≠ gb407 from ((by rw [hg]; exact Nat.ne_of_gt (blk_lt (g := gb407) (o := .cells #[.int .i64 0, .int .i64 0] 24 (0, 0)) (by (with_reducible repeat (first | refine blk_drewN ?_ _ | refine blk_drew ?_ | refine blk_alloc ?_ _)); exact (Q4 (show b 16 = true from h0_) (hoff 21 (by kernel_rfl))))) : gb408 ≠ gb407)))
   have z_NB407_408 := fun (h0_ : up b 17 16 = true) (h1_ : up b 17 17 = true) => (show gb407 ≠ gb408 from ((by rw [hg]; exact Nat.ne_of_lt (blk_lt (g := gb407) (o := .cells #[.int .i64 0, .int .i64 0] 24 (0, 0)) (by (with_reducible repeat (first | refine blk_drewN ?_ _ | refine blk_drew ?_ | refine blk_alloc ?_ _)); exact (Q4 (show b 16 = true from h0_) (hoff 21 (by kernel_rfl))))) : gb407 ≠ gb408)))
   have z_NB409_408 := fun (h0_ : up b 17 17 = true) (h1_ : up b 17 18 = true) => (show gb409 ≠ gb408 from ((by rw [hg]; exact Nat.ne_of_lt (blk_lt (g := gb409) (o := .cells #[.int .i64 0, .int .i64 0] 24 (0, 0)) (by (with_reducible repeat (first | refine blk_drewN ?_ _ | refine blk_drew ?_ | refine blk_alloc ?_ _)); exact (Q8 (show b 18 = true from h1_) (hoff 23 (by kernel_rfl))))) : gb409 ≠ gb408)))
   have z_NB408_409 := fun (h0_ : up b 17 17 = true) (h1_ : up b 17 18 = true) => (show gb408 ≠ gb409 from ((by rw [hg]; exact Nat.ne_of_gt (blk_lt (g := gb409) (o := .cells #[.int .i64 0, .int .i64 0] 24 (0, 0)) (by (with_reducible repeat (first | refine blk_drewN ?_ _ | refine blk_drew ?_ | refine blk_alloc ?_ _)); exact (Q8 (show b 18 = true from h1_) (hoff 23 (by kernel_rfl))))) : gb408 ≠ gb409)))
   have z_NB410_408 := fun (h0_ : up b 17 17 = true) (h1_ : up b 17 19 = true) => (show gb410 ≠ gb408 from ((by rw [hg]; exact Nat.ne_of_lt (blk_lt (g := gb410) (o := .cells #[.int .i64 0, .int .i64 0] 24 (0, 0)) (by (with_reducible repeat (first | refine blk_drewN ?_ _ | refine blk_drew ?_ | refine blk_alloc ?_ _)); exact (Q10 (show b 19 = true from h1_) (hoff 24 (by kernel_rfl))))) : gb410 ≠ gb408)))
   have z_NB408_410 := fun (h0_ : up b 17 17 = true) (h1_ : up b 17 19 = true) => (show gb408 ≠ gb410 from ((by rw [hg]; exact Nat.ne_of_gt (blk_lt (g := gb410) (o := .cells #[.int .i64 0, .int .i64 0] 24 (0, 0)) (by (with_reducible repeat (first | refine blk_drewN ?_ _ | refine blk_drew ?_ | refine blk_alloc ?_ _)); exact (Q10 (show b 19 = true from h1_) (hoff 24 (by kernel_rfl))))) : gb408 ≠ gb410)))
   have z_BK406 := fun (h0_ : b 15 = true) (h1_ : b 20 = false) => (show w27.heap[gb406]? = some (.cells #[.int .i64 0, .int .i64 0] 24 (0, 0)) from by first | exact (blk_below (g := gb406) (o := .cells #[.int .i64 0, .int .i64 0] 24 (0, 0)) (by (with_reducible repeat (first | refine blk_drewN ?_ _ | refine blk_drew ?_ | refine blk_alloc ?_ _)); exact (Q2 h0_ h1_)) hb))
   have z_BK407 := fun (h0_ : b 16 = true) (h1_ : b 21 = false) => (show w27.heap[gb407]? = some (.cells #[.int .i64 0, .int .i64 0] 24 (0, 0)) from by first | exact (blk_below (g := gb407) (o := .cells #[.int .i64 0, .int .i64 0] 24 (0, 0)) (by (with_reducible repeat (first | refine blk_drewN ?_ _ | refine blk_drew ?_ | refine blk_alloc ?_ _)); exact (Q4 h0_ h1_)) hb))
   have z_BK409 := fun (h0_ : b 18 = true) (h1_ : b 23 = false) => (show w27.heap[gb409]? = some (.cells #[.int .i64 0, .int .i64 0] 24 (0, 0)) from by first | exact (blk_below (g := gb409) (o := .cells #[.int .i64 0, .int .i64 0] 24 (0, 0)) (by (with_reducible repeat (first | refine blk_drewN ?_ _ | refine blk_drew ?_ | refine blk_alloc ?_ _)); exact (Q8 h0_ h1_)) hb))
   have z_BK410 := fun (h0_ : b 19 = true) (h1_ : b 24 = false) => (show w27.heap[gb410]? = some (.cells #[.int .i64 0, .int .i64 0] 24 (0, 0)) from by first | exact (blk_below (g := gb410) (o := .cells #[.int .i64 0, .int .i64 0] 24 (0, 0)) (by (with_reducible repeat (first | refine blk_drewN ?_ _ | refine blk_drew ?_ | refine blk_alloc ?_ _)); exact (Q10 h0_ h1_)) hb))
   clear BK394
   clear BK395
   clear HB
   have BK394 := n0_
   have BK395 := n1_
   have HB := n2_
   have BK408 := n3_
   have GW408 := n4_
   have GE408 := n5_
   have NB394_408 := n6_
   have NB408_394 := n7_
   have NB395_408 := n8_
   have NB408_395 := n9_
   clear n0_ n1_ n2_ n3_ n4_ n5_ n6_ n7_ n8_ n9_
   clear hb hbox hg
   refine hK.out _ _ ⟨gb406, gb407, gb408, gb409, gb410, m15_, m16_, (.pointer (some ⟨gb408, 0, none⟩)), m18_, m19_, (by rw [ha.out]; exact putSel_upk 17 hb_ rfl rfl rfl), BK394.out, BK395.out, HB.out, Q41, Q35, @z_NB408_406, @z_NB406_408, Q53, Q37, Q59, Q38, @z_NB408_407, @z_NB407_408, Q54, Q43, Q60, Q44, @z_NB409_408, @z_NB408_409, @z_NB410_408, @z_NB408_410, Q62, Q56, z_BK406, Q17, Q12, Q23, Q33, Q28, Q34, z_BK407, Q18, Q13, Q24, Q39, Q29, Q40, fun _ _ => BK408.out, fun _ => GW408.out, fun _ => GE408.out, fun _ => NB394_408.out, fun _ => NB408_394.out, fun _ => NB395_408.out, fun _ => NB408_395.out, z_BK409, Q20, Q15, Q26, Q51, Q31, Q52, z_BK410, Q21, Q16, Q27, Q57, Q32, Q58, fun h0_ => absurd ((hoff 20 (by kernel_rfl)).symm.trans h0_) (by decide), fun h0_ => absurd ((hoff 21 (by kernel_rfl)).symm.trans h0_) (by decide), fun h0_ => absurd ((hoff 22 (by kernel_rfl)).symm.trans h0_) (by decide), fun h0_ => absurd ((hoff 23 (by kernel_rfl)).symm.trans h0_) (by decide), fun h0_ => absurd ((hoff 24 (by kernel_rfl)).symm.trans h0_) (by decide), Q63, Q64, fun _ => rfl, Q66, Q67⟩
  refine steps_cons ?_ ?_
  ·rintro b a w' ⟨gb406, gb407, gb408, gb409, gb410, m15_, m16_, m17_, m18_, m19_, ha, Q0, Q1, Q22, Q41, Q35, Q47, Q36, Q53, Q37, Q59, Q38, Q48, Q42, Q54, Q43, Q60, Q44, Q55, Q49, Q61, Q50, Q62, Q56, Q2, Q17, Q12, Q23, Q33, Q28, Q34, Q4, Q18, Q13, Q24, Q39, Q29, Q40, Q6, Q19, Q14, Q25, Q45, Q30, Q46, Q8, Q20, Q15, Q26, Q51, Q31, Q52, Q10, Q21, Q16, Q27, Q57, Q32, Q58, Q3, Q5, Q7, Q9, Q11, Q63, Q64, Q65, Q66, Q67⟩ hb_ hon hoff
   refine ⟨_, rfl, fun K hK => ?_⟩
   replace ha := Aside0.mk ha
   have BK394 := Aside0.mk Q0
   have BK395 := Aside0.mk Q1
   have HB := Aside0.mk Q22
   refine box_step ?hg (N := 8) ?hd (cs := #[.int .i64 0, .int .i64 0]) (t := 24) ?hr ?_; (case hd => rfl); (case hg => rfl); (case hr => first | (go_simp; done) | (go_simp; rfl))
   intro gb409 hg w27 hbox hb
   have n0_ := zb BK394 hb
   have n1_ := zb BK395 hb
   have n2_ := zs HB hb
   have n3_ := Aside0.mk (hbox)
   have n4_ := Aside0.mk ((by rw [hg]; exact (below_size HB.out) : w.heap.size ≤ gb409))
   have n5_ := Aside0.mk ((by rw [hg]; exact (below_size HB.out) : w.heap.size ≤ gb409))
   have n6_ := Aside0.mk ((by rw [hg]; exact Nat.ne_of_lt (blk_lt (g := gb394) (o := .cells #[.int .i64 a0_0, .int .i64 a0_1] 24 (0, 0)) BK394.out) : gb394 ≠ gb409))
   have n7_ := Aside0.mk ((by rw [hg]; exact Nat.ne_of_gt (blk_lt (g := gb394) (o := .cells #[.int .i64 a0_0, .int .i64 a0_1] 24 (0, 0)) BK394.out) : gb409 ≠ gb394))
   have n8_ := Aside0.mk ((by rw [hg]; exact Nat.ne_of_lt (blk_lt (g := gb395) (o := .cells #[.int .i64 a1_0, .int .i64 a1_1] 24 (0, 0)) BK395.out) : gb395 ≠ gb409))
   have n9_ := Aside0.mk ((by rw [hg]; exact Nat.ne_of_gt (blk_lt (g := gb395) (o := .cells #[.int .i64 a1_0, .int .i64 a1_1] 24 (0, 0)) BK395.out) : gb409 ≠ gb395))
   have z_NB409_406 := fun (h0_ : up b 18 15 = true) (h1_ : up b 18 18 = true) => (show gb409 ≠ gb406 from ((by rw [hg]; exact Nat.ne_of_gt (blk_lt (g := gb406) (o := .cells #[.int .i64 0, .int .i64 0] 24 (0, 0)) (by (with_reducible repeat (first | refine blk_drewN ?_ _ | refine blk_drew ?_ | refine blk_alloc ?_ _)); exact (Q2 (show b 15 = true from h0_) (hoff 20 (by kernel_rfl))))) : gb409 ≠ gb406)))
   have z_NB406_409 := fun (h0_ : up b 18 15 = true) (h1_ : up b 18 18 = true) => (show gb406 ≠ gb409 from ((by rw [hg]; exact Nat.ne_of_lt (blk_lt (g := gb406) (o := .cells #[.int .i64 0, .int .i64 0] 24 (0, 0)) (by (with_reducible repeat (first | refine blk_drewN ?_ _ | refine blk_drew ?_ | refine blk_alloc ?_ _)); exact (Q2 (show b 15 = true from h0_) (hoff 20 (by kernel_rfl))))) : gb406 ≠ gb409)))
   have z_NB409_407 := fun (h0_ : up b 18 16 = true) (h1_ : up b 18 18 = true) => (show gb409 ≠ gb407 from ((by rw [hg]; exact Nat.ne_of_gt (blk_lt (g := gb407) (o := .cells #[.int .i64 0, .int .i64 0] 24 (0, 0)) (by (with_reducible repeat (first | refine blk_drewN ?_ _ | refine blk_drew ?_ | refine blk_alloc ?_ _)); exact (Q4 (show b 16 = true from h0_) (hoff 21 (by kernel_rfl))))) : gb409 ≠ gb407)))
   have z_NB407_409 := fun (h0_ : up b 18 16 = true) (h1_ : up b 18 18 = true) => (show gb407 ≠ gb409 from ((by rw [hg]; exact Nat.ne_of_lt (blk_lt (g := gb407) (o := .cells #[.int .i64 0, .int .i64 0] 24 (0, 0)) (by (with_reducible repeat (first | refine blk_drewN ?_ _ | refine blk_drew ?_ | refine blk_alloc ?_ _)); exact (Q4 (show b 16 = true from h0_) (hoff 21 (by kernel_rfl))))) : gb407 ≠ gb409)))
   have z_NB409_408 := fun (h0_ : up b 18 17 = true) (h1_ : up b 18 18 = true) => (show gb409 ≠ gb408 from ((by rw [hg]; exact Nat.ne_of_gt (blk_lt (g := gb408) (o := .cells #[.int .i64 0, .int .i64 0] 24 (0, 0)) (by (with_reducible repeat (first | refine blk_drewN ?_ _ | refine blk_drew ?_ | refine blk_alloc ?_ _)); exact (Q6 (show b 17 = true from h0_) (hoff 22 (by kernel_rfl))))) : gb409 ≠ gb408)))
   have z_NB408_409 := fun (h0_ : up b 18 17 = true) (h1_ : up b 18 18 = true) => (show gb408 ≠ gb409 from ((by rw [hg]; exact Nat.ne_of_lt (blk_lt (g := gb408) (o := .cells #[.int .i64 0, .int .i64 0] 24 (0, 0)) (by (with_reducible repeat (first | refine blk_drewN ?_ _ | refine blk_drew ?_ | refine blk_alloc ?_ _)); exact (Q6 (show b 17 = true from h0_) (hoff 22 (by kernel_rfl))))) : gb408 ≠ gb409)))
   have z_NB410_409 := fun (h0_ : up b 18 18 = true) (h1_ : up b 18 19 = true) => (show gb410 ≠ gb409 from ((by rw [hg]; exact Nat.ne_of_lt (blk_lt (g := gb410) (o := .cells #[.int .i64 0, .int .i64 0] 24 (0, 0)) (by (with_reducible repeat (first | refine blk_drewN ?_ _ | refine blk_drew ?_ | refine blk_alloc ?_ _)); exact (Q10 (show b 19 = true from h1_) (hoff 24 (by kernel_rfl))))) : gb410 ≠ gb409)))
   have z_NB409_410 := fun (h0_ : up b 18 18 = true) (h1_ : up b 18 19 = true) => (show gb409 ≠ gb410 from ((by rw [hg]; exact Nat.ne_of_gt (blk_lt (g := gb410) (o := .cells #[.int .i64 0, .int .i64 0] 24 (0, 0)) (by (with_reducible repeat (first | refine blk_drewN ?_ _ | refine blk_drew ?_ | refine blk_alloc ?_ _)); exact (Q10 (show b 19 = true from h1_) (hoff 24 (by kernel_rfl))))) : gb409 ≠ gb410)))
   have z_BK406 := fun (h0_ : b 15 = true) (h1_ : b 20 = false) => (show w27.heap[gb406]? = some (.cells #[.int .i64 0, .int .i64 0] 24 (0, 0)) from by first | exact (blk_below (g := gb406) (o := .cells #[.int .i64 0, .int .i64 0] 24 (0, 0)) (by (with_reducible repeat (first | refine blk_drewN ?_ _ | refine blk_drew ?_ | refine blk_alloc ?_ _)); exact (Q2 h0_ h1_)) hb))
   have z_BK407 := fun (h0_ : b 16 = true) (h1_ : b 21 = false) => (show w27.heap[gb407]? = some (.cells #[.int .i64 0, .int .i64 0] 24 (0, 0)) from by first | exact (blk_below (g := gb407) (o := .cells #[.int .i64 0, .int .i64 0] 24 (0, 0)) (by (with_reducible repeat (first | refine blk_drewN ?_ _ | refine blk_drew ?_ | refine blk_alloc ?_ _)); exact (Q4 h0_ h1_)) hb))
   have z_BK408 := fun (h0_ : b 17 = true) (h1_ : b 22 = false) => (show w27.heap[gb408]? = some (.cells #[.int .i64 0, .int .i64 0] 24 (0, 0)) from by first | exact (blk_below (g := gb408) (o := .cells #[.int .i64 0, .int .i64 0] 24 (0, 0)) (by (with_reducible repeat (first | refine blk_drewN ?_ _ | refine blk_drew ?_ | refine blk_alloc ?_ _)); exact (Q6 h0_ h1_)) hb))
   have z_BK410 := fun (h0_ : b 19 = true) (h1_ : b 24 = false) => (show w27.heap[gb410]? = some (.cells #[.int .i64 0, .int .i64 0] 24 (0, 0)) from by first | exact (blk_below (g := gb410) (o := .cells #[.int .i64 0, .int .i64 0] 24 (0, 0)) (by (with_reducible repeat (first | refine blk_drewN ?_ _ | refine blk_drew ?_ | refine blk_alloc ?_ _)); exact (Q10 h0_ h1_)) hb))
   clear BK394
   clear BK395
   clear HB
   have BK394 := n0_
   have BK395 := n1_
   have HB := n2_
   have BK409 := n3_
   have GW409 := n4_
   have GE409 := n5_
   have NB394_409 := n6_
   have NB409_394 := n7_
   have NB395_409 := n8_
   have NB409_395 := n9_
   clear n0_ n1_ n2_ n3_ n4_ n5_ n6_ n7_ n8_ n9_
   clear hb hbox hg
   refine hK.out _ _ ⟨gb406, gb407, gb408, gb409, gb410, m15_, m16_, m17_, (.pointer (some ⟨gb409, 0, none⟩)), m19_, (by rw [ha.out]; exact putSel_upk 18 hb_ rfl rfl rfl), BK394.out, BK395.out, HB.out, Q41, Q35, Q47, Q36, @z_NB409_406, @z_NB406_409, Q59, Q38, Q48, Q42, @z_NB409_407, @z_NB407_409, Q60, Q44, @z_NB409_408, @z_NB408_409, Q61, Q50, @z_NB410_409, @z_NB409_410, z_BK406, Q17, Q12, Q23, Q33, Q28, Q34, z_BK407, Q18, Q13, Q24, Q39, Q29, Q40, z_BK408, Q19, Q14, Q25, Q45, Q30, Q46, fun _ _ => BK409.out, fun _ => GW409.out, fun _ => GE409.out, fun _ => NB394_409.out, fun _ => NB409_394.out, fun _ => NB395_409.out, fun _ => NB409_395.out, z_BK410, Q21, Q16, Q27, Q57, Q32, Q58, fun h0_ => absurd ((hoff 20 (by kernel_rfl)).symm.trans h0_) (by decide), fun h0_ => absurd ((hoff 21 (by kernel_rfl)).symm.trans h0_) (by decide), fun h0_ => absurd ((hoff 22 (by kernel_rfl)).symm.trans h0_) (by decide), fun h0_ => absurd ((hoff 23 (by kernel_rfl)).symm.trans h0_) (by decide), fun h0_ => absurd ((hoff 24 (by kernel_rfl)).symm.trans h0_) (by decide), Q63, Q64, Q65, fun _ => rfl, Q67⟩
  refine steps_cons ?_ ?_
  ·rintro b a w' ⟨gb406, gb407, gb408, gb409, gb410, m15_, m16_, m17_, m18_, m19_, ha, Q0, Q1, Q22, Q41, Q35, Q47, Q36, Q53, Q37, Q59, Q38, Q48, Q42, Q54, Q43, Q60, Q44, Q55, Q49, Q61, Q50, Q62, Q56, Q2, Q17, Q12, Q23, Q33, Q28, Q34, Q4, Q18, Q13, Q24, Q39, Q29, Q40, Q6, Q19, Q14, Q25, Q45, Q30, Q46, Q8, Q20, Q15, Q26, Q51, Q31, Q52, Q10, Q21, Q16, Q27, Q57, Q32, Q58, Q3, Q5, Q7, Q9, Q11, Q63, Q64, Q65, Q66, Q67⟩ hb_ hon hoff
   refine ⟨_, rfl, fun K hK => ?_⟩
   replace ha := Aside0.mk ha
   have BK394 := Aside0.mk Q0
   have BK395 := Aside0.mk Q1
   have HB := Aside0.mk Q22
   refine box_step ?hg (N := 9) ?hd (cs := #[.int .i64 0, .int .i64 0]) (t := 24) ?hr ?_; (case hd => rfl); (case hg => rfl); (case hr => first | (go_simp; done) | (go_simp; rfl))
   intro gb410 hg w27 hbox hb
   have n0_ := zb BK394 hb
   have n1_ := zb BK395 hb
   have n2_ := zs HB hb
   have n3_ := Aside0.mk (hbox)
   have n4_ := Aside0.mk ((by rw [hg]; exact (below_size HB.out) : w.heap.size ≤ gb410))
   have n5_ := Aside0.mk ((by rw [hg]; exact (below_size HB.out) : w.heap.size ≤ gb410))
   have n6_ := Aside0.mk ((by rw [hg]; exact Nat.ne_of_lt (blk_lt (g := gb394) (o := .cells #[.int .i64 a0_0, .int .i64 a0_1] 24 (0, 0)) BK394.out) : gb394 ≠ gb410))
   have n7_ := Aside0.mk ((by rw [hg]; exact Nat.ne_of_gt (blk_lt (g := gb394) (o := .cells #[.int .i64 a0_0, .int .i64 a0_1] 24 (0, 0)) BK394.out) : gb410 ≠ gb394))
   have n8_ := Aside0.mk ((by rw [hg]; exact Nat.ne_of_lt (blk_lt (g := gb395) (o := .cells #[.int .i64 a1_0, .int .i64 a1_1] 24 (0, 0)) BK395.out) : gb395 ≠ gb410))
   have n9_ := Aside0.mk ((by rw [hg]; exact Nat.ne_of_gt (blk_lt (g := gb395) (o := .cells #[.int .i64 a1_0, .int .i64 a1_1] 24 (0, 0)) BK395.out) : gb410 ≠ gb395))
   have z_NB410_406 := fun (h0_ : up b 19 15 = true) (h1_ : up b 19 19 = true) => (show gb410 ≠ gb406 from ((by rw [hg]; exact Nat.ne_of_gt (blk_lt (g := gb406) (o := .cells #[.int .i64 0, .int .i64 0] 24 (0, 0)) (by (with_reducible repeat (first | refine blk_drewN ?_ _ | refine blk_drew ?_ | refine blk_alloc ?_ _)); exact (Q2 (show b 15 = true from h0_) (hoff 20 (by kernel_rfl))))) : gb410 ≠ gb406)))
   have z_NB406_410 := fun (h0_ : up b 19 15 = true) (h1_ : up b 19 19 = true) => (show gb406 ≠ gb410 from ((by rw [hg]; exact Nat.ne_of_lt (blk_lt (g := gb406) (o := .cells #[.int .i64 0, .int .i64 0] 24 (0, 0)) (by (with_reducible repeat (first | refine blk_drewN ?_ _ | refine blk_drew ?_ | refine blk_alloc ?_ _)); exact (Q2 (show b 15 = true from h0_) (hoff 20 (by kernel_rfl))))) : gb406 ≠ gb410)))
   have z_NB410_407 := fun (h0_ : up b 19 16 = true) (h1_ : up b 19 19 = true) => (show gb410 ≠ gb407 from ((by rw [hg]; exact Nat.ne_of_gt (blk_lt (g := gb407) (o := .cells #[.int .i64 0, .int .i64 0] 24 (0, 0)) (by (with_reducible repeat (first | refine blk_drewN ?_ _ | refine blk_drew ?_ | refine blk_alloc ?_ _)); exact (Q4 (show b 16 = true from h0_) (hoff 21 (by kernel_rfl))))) : gb410 ≠ gb407)))
   have z_NB407_410 := fun (h0_ : up b 19 16 = true) (h1_ : up b 19 19 = true) => (show gb407 ≠ gb410 from ((by rw [hg]; exact Nat.ne_of_lt (blk_lt (g := gb407) (o := .cells #[.int .i64 0, .int .i64 0] 24 (0, 0)) (by (with_reducible repeat (first | refine blk_drewN ?_ _ | refine blk_drew ?_ | refine blk_alloc ?_ _)); exact (Q4 (show b 16 = true from h0_) (hoff 21 (by kernel_rfl))))) : gb407 ≠ gb410)))
   have z_NB410_408 := fun (h0_ : up b 19 17 = true) (h1_ : up b 19 19 = true) => (show gb410 ≠ gb408 from ((by rw [hg]; exact Nat.ne_of_gt (blk_lt (g := gb408) (o := .cells #[.int .i64 0, .int .i64 0] 24 (0, 0)) (by (with_reducible repeat (first | refine blk_drewN ?_ _ | refine blk_drew ?_ | refine blk_alloc ?_ _)); exact (Q6 (show b 17 = true from h0_) (hoff 22 (by kernel_rfl))))) : gb410 ≠ gb408)))
   have z_NB408_410 := fun (h0_ : up b 19 17 = true) (h1_ : up b 19 19 = true) => (show gb408 ≠ gb410 from ((by rw [hg]; exact Nat.ne_of_lt (blk_lt (g := gb408) (o := .cells #[.int .i64 0, .int .i64 0] 24 (0, 0)) (by (with_reducible repeat (first | refine blk_drewN ?_ _ | refine blk_drew ?_ | refine blk_alloc ?_ _)); exact (Q6 (show b 17 = true from h0_) (hoff 22 (by kernel_rfl))))) : gb408 ≠ gb410)))
   have z_NB410_409 := fun (h0_ : up b 19 18 = true) (h1_ : up b 19 19 = true) => (show gb410 ≠ gb409 from ((by rw [hg]; exact Nat.ne_of_gt (blk_lt (g := gb409) (o := .cells #[.int .i64 0, .int .i64 0] 24 (0, 0)) (by (with_reducible repeat (first | refine blk_drewN ?_ _ | refine blk_drew ?_ | refine blk_alloc ?_ _)); exact (Q8 (show b 18 = true from h0_) (hoff 23 (by kernel_rfl))))) : gb410 ≠ gb409)))
   have z_NB409_410 := fun (h0_ : up b 19 18 = true) (h1_ : up b 19 19 = true) => (show gb409 ≠ gb410 from ((by rw [hg]; exact Nat.ne_of_lt (blk_lt (g := gb409) (o := .cells #[.int .i64 0, .int .i64 0] 24 (0, 0)) (by (with_reducible repeat (first | refine blk_drewN ?_ _ | refine blk_drew ?_ | refine blk_alloc ?_ _)); exact (Q8 (show b 18 = true from h0_) (hoff 23 (by kernel_rfl))))) : gb409 ≠ gb410)))
   have z_BK406 := fun (h0_ : b 15 = true) (h1_ : b 20 = false) => (show w27.heap[gb406]? = some (.cells #[.int .i64 0, .int .i64 0] 24 (0, 0)) from by first | exact (blk_below (g := gb406) (o := .cells #[.int .i64 0, .int .i64 0] 24 (0, 0)) (by (with_reducible repeat (first | refine blk_drewN ?_ _ | refine blk_drew ?_ | refine blk_alloc ?_ _)); exact (Q2 h0_ h1_)) hb))
   have z_BK407 := fun (h0_ : b 16 = true) (h1_ : b 21 = false) => (show w27.heap[gb407]? = some (.cells #[.int .i64 0, .int .i64 0] 24 (0, 0)) from by first | exact (blk_below (g := gb407) (o := .cells #[.int .i64 0, .int .i64 0] 24 (0, 0)) (by (with_reducible repeat (first | refine blk_drewN ?_ _ | refine blk_drew ?_ | refine blk_alloc ?_ _)); exact (Q4 h0_ h1_)) hb))
   have z_BK408 := fun (h0_ : b 17 = true) (h1_ : b 22 = false) => (show w27.heap[gb408]? = some (.cells #[.int .i64 0, .int .i64 0] 24 (0, 0)) from by first | exact (blk_below (g := gb408) (o := .cells #[.int .i64 0, .int .i64 0] 24 (0, 0)) (by (with_reducible repeat (first | refine blk_drewN ?_ _ | refine blk_drew ?_ | refine blk_alloc ?_ _)); exact (Q6 h0_ h1_)) hb))
   have z_BK409 := fun (h0_ : b 18 = true) (h1_ : b 23 = false) => (show w27.heap[gb409]? = some (.cells #[.int .i64 0, .int .i64 0] 24 (0, 0)) from by first | exact (blk_below (g := gb409) (o := .cells #[.int .i64 0, .int .i64 0] 24 (0, 0)) (by (with_reducible repeat (first | refine blk_drewN ?_ _ | refine blk_drew ?_ | refine blk_alloc ?_ _)); exact (Q8 h0_ h1_)) hb))
   clear BK394
   clear BK395
   clear HB
   have BK394 := n0_
   have BK395 := n1_
   have HB := n2_
   have BK410 := n3_
   have GW410 := n4_
   have GE410 := n5_
   have NB394_410 := n6_
   have NB410_394 := n7_
   have NB395_410 := n8_
   have NB410_395 := n9_
   clear n0_ n1_ n2_ n3_ n4_ n5_ n6_ n7_ n8_ n9_
   clear hb hbox hg
   refine hK.out _ _ ⟨gb406, gb407, gb408, gb409, gb410, m15_, m16_, m17_, m18_, (.pointer (some ⟨gb410, 0, none⟩)), (by rw [ha.out]; exact putSel_upk 19 hb_ rfl rfl rfl), BK394.out, BK395.out, HB.out, Q41, Q35, Q47, Q36, Q53, Q37, @z_NB410_406, @z_NB406_410, Q48, Q42, Q54, Q43, @z_NB410_407, @z_NB407_410, Q55, Q49, @z_NB410_408, @z_NB408_410, @z_NB410_409, @z_NB409_410, z_BK406, Q17, Q12, Q23, Q33, Q28, Q34, z_BK407, Q18, Q13, Q24, Q39, Q29, Q40, z_BK408, Q19, Q14, Q25, Q45, Q30, Q46, z_BK409, Q20, Q15, Q26, Q51, Q31, Q52, fun _ _ => BK410.out, fun _ => GW410.out, fun _ => GE410.out, fun _ => NB394_410.out, fun _ => NB410_394.out, fun _ => NB395_410.out, fun _ => NB410_395.out, fun h0_ => absurd ((hoff 20 (by kernel_rfl)).symm.trans h0_) (by decide), fun h0_ => absurd ((hoff 21 (by kernel_rfl)).symm.trans h0_) (by decide), fun h0_ => absurd ((hoff 22 (by kernel_rfl)).symm.trans h0_) (by decide), fun h0_ => absurd ((hoff 23 (by kernel_rfl)).symm.trans h0_) (by decide), fun h0_ => absurd ((hoff 24 (by kernel_rfl)).symm.trans h0_) (by decide), Q63, Q64, Q65, Q66, fun _ => rfl⟩
  refine steps_cons ?_ ?_
  ·rintro b a w' ⟨gb406, gb407, gb408, gb409, gb410, m15_, m16_, m17_, m18_, m19_, ha, Q0, Q1, Q22, Q41, Q35, Q47, Q36, Q53, Q37, Q59, Q38, Q48, Q42, Q54, Q43, Q60, Q44, Q55, Q49, Q61, Q50, Q62, Q56, Q2, Q17, Q12, Q23, Q33, Q28, Q34, Q4, Q18, Q13, Q24, Q39, Q29, Q40, Q6, Q19, Q14, Q25, Q45, Q30, Q46, Q8, Q20, Q15, Q26, Q51, Q31, Q52, Q10, Q21, Q16, Q27, Q57, Q32, Q58, Q3, Q5, Q7, Q9, Q11, Q63, Q64, Q65, Q66, Q67⟩ hb_ hon hoff
   refine ⟨_, rfl, fun K hK => ?_⟩
   have e5 : a.tmps[5]? = some (m15_) := by rw [ha]; exact putSel_on (e := (15, 5, m15_)) 15 rfl rfl (hon 15 (by kernel_rfl)) rfl
   rw [Q63 (hon 15 (by kernel_rfl))] at e5
   have e12 : a.tmps[12]? = some (.agg #[.int .i64 t396, .int .i64 t397]) := by rw [ha]; exact putSel_on (e := (2, 12, .agg #[.int .i64 t396, .int .i64 t397])) 2 rfl rfl (hon 2 (by kernel_rfl)) rfl
   replace ha := Aside0.mk ha
   have BK394 := Aside0.mk Q0
   have BK395 := Aside0.mk Q1
   have HB := Aside0.mk Q22
   have NB407_406 := Aside0.mk (Q41 (hon 15 (by kernel_rfl)) (hon 16 (by kernel_rfl)))
   have NB406_407 := Aside0.mk (Q35 (hon 15 (by kernel_rfl)) (hon 16 (by kernel_rfl)))
   have NB408_406 := Aside0.mk (Q47 (hon 15 (by kernel_rfl)) (hon 17 (by kernel_rfl)))
   have NB406_408 := Aside0.mk (Q36 (hon 15 (by kernel_rfl)) (hon 17 (by kernel_rfl)))
   have NB409_406 := Aside0.mk (Q53 (hon 15 (by kernel_rfl)) (hon 18 (by kernel_rfl)))
   have NB406_409 := Aside0.mk (Q37 (hon 15 (by kernel_rfl)) (hon 18 (by kernel_rfl)))
   have NB410_406 := Aside0.mk (Q59 (hon 15 (by kernel_rfl)) (hon 19 (by kernel_rfl)))
   have NB406_410 := Aside0.mk (Q38 (hon 15 (by kernel_rfl)) (hon 19 (by kernel_rfl)))
   have NB408_407 := Aside0.mk (Q48 (hon 16 (by kernel_rfl)) (hon 17 (by kernel_rfl)))
   have NB407_408 := Aside0.mk (Q42 (hon 16 (by kernel_rfl)) (hon 17 (by kernel_rfl)))
   have NB409_407 := Aside0.mk (Q54 (hon 16 (by kernel_rfl)) (hon 18 (by kernel_rfl)))
   have NB407_409 := Aside0.mk (Q43 (hon 16 (by kernel_rfl)) (hon 18 (by kernel_rfl)))
   have NB410_407 := Aside0.mk (Q60 (hon 16 (by kernel_rfl)) (hon 19 (by kernel_rfl)))
   have NB407_410 := Aside0.mk (Q44 (hon 16 (by kernel_rfl)) (hon 19 (by kernel_rfl)))
   have NB409_408 := Aside0.mk (Q55 (hon 17 (by kernel_rfl)) (hon 18 (by kernel_rfl)))
   have NB408_409 := Aside0.mk (Q49 (hon 17 (by kernel_rfl)) (hon 18 (by kernel_rfl)))
   have NB410_408 := Aside0.mk (Q61 (hon 17 (by kernel_rfl)) (hon 19 (by kernel_rfl)))
   have NB408_410 := Aside0.mk (Q50 (hon 17 (by kernel_rfl)) (hon 19 (by kernel_rfl)))
   have NB410_409 := Aside0.mk (Q62 (hon 18 (by kernel_rfl)) (hon 19 (by kernel_rfl)))
   have NB409_410 := Aside0.mk (Q56 (hon 18 (by kernel_rfl)) (hon 19 (by kernel_rfl)))
   have BK406 := Aside0.mk (Q2 (hon 15 (by kernel_rfl)) hb_)
   have GW406 := Aside0.mk (Q17 (hon 15 (by kernel_rfl)))
   have GE406 := Aside0.mk (Q12 (hon 15 (by kernel_rfl)))
   have NB394_406 := Aside0.mk (Q23 (hon 15 (by kernel_rfl)))
   have NB406_394 := Aside0.mk (Q33 (hon 15 (by kernel_rfl)))
   have NB395_406 := Aside0.mk (Q28 (hon 15 (by kernel_rfl)))
   have NB406_395 := Aside0.mk (Q34 (hon 15 (by kernel_rfl)))
   have BK407 := Aside0.mk (Q4 (hon 16 (by kernel_rfl)) (hoff 21 (by kernel_rfl)))
   have GW407 := Aside0.mk (Q18 (hon 16 (by kernel_rfl)))
   have GE407 := Aside0.mk (Q13 (hon 16 (by kernel_rfl)))
   have NB394_407 := Aside0.mk (Q24 (hon 16 (by kernel_rfl)))
   have NB407_394 := Aside0.mk (Q39 (hon 16 (by kernel_rfl)))
   have NB395_407 := Aside0.mk (Q29 (hon 16 (by kernel_rfl)))
   have NB407_395 := Aside0.mk (Q40 (hon 16 (by kernel_rfl)))
   have BK408 := Aside0.mk (Q6 (hon 17 (by kernel_rfl)) (hoff 22 (by kernel_rfl)))
   have GW408 := Aside0.mk (Q19 (hon 17 (by kernel_rfl)))
   have GE408 := Aside0.mk (Q14 (hon 17 (by kernel_rfl)))
   have NB394_408 := Aside0.mk (Q25 (hon 17 (by kernel_rfl)))
   have NB408_394 := Aside0.mk (Q45 (hon 17 (by kernel_rfl)))
   have NB395_408 := Aside0.mk (Q30 (hon 17 (by kernel_rfl)))
   have NB408_395 := Aside0.mk (Q46 (hon 17 (by kernel_rfl)))
   have BK409 := Aside0.mk (Q8 (hon 18 (by kernel_rfl)) (hoff 23 (by kernel_rfl)))
   have GW409 := Aside0.mk (Q20 (hon 18 (by kernel_rfl)))
   have GE409 := Aside0.mk (Q15 (hon 18 (by kernel_rfl)))
   have NB394_409 := Aside0.mk (Q26 (hon 18 (by kernel_rfl)))
   have NB409_394 := Aside0.mk (Q51 (hon 18 (by kernel_rfl)))
   have NB395_409 := Aside0.mk (Q31 (hon 18 (by kernel_rfl)))
   have NB409_395 := Aside0.mk (Q52 (hon 18 (by kernel_rfl)))
   have BK410 := Aside0.mk (Q10 (hon 19 (by kernel_rfl)) (hoff 24 (by kernel_rfl)))
   have GW410 := Aside0.mk (Q21 (hon 19 (by kernel_rfl)))
   have GE410 := Aside0.mk (Q16 (hon 19 (by kernel_rfl)))
   have NB394_410 := Aside0.mk (Q27 (hon 19 (by kernel_rfl)))
   have NB410_394 := Aside0.mk (Q57 (hon 19 (by kernel_rfl)))
   have NB395_410 := Aside0.mk (Q32 (hon 19 (by kernel_rfl)))
   have NB410_395 := Aside0.mk (Q58 (hon 19 (by kernel_rfl)))
   have hs38 : w'.cell? ⟨gb406, 0, none⟩ = some (.int .i64 0) := (blk_cell BK406.out 0).trans rfl
   have hfs38 := blk_frozen BK406.out 0
   have hns38_0 := NB394_406.out
   have hns38_1 := NB395_406.out
   have hns38_3 := NB407_406.out
   have hns38_4 := NB408_406.out
   have hns38_5 := NB409_406.out
   have hns38_6 := NB410_406.out
   have hms38_0 := NB406_394.out
   have hms38_1 := NB406_395.out
   have hms38_3 := NB406_407.out
   have hms38_4 := NB406_408.out
   have hms38_5 := NB406_409.out
   have hms38_6 := NB406_410.out
   have hs39 : w'.cell? ⟨gb406, 1, none⟩ = some (.int .i64 0) := (blk_cell BK406.out 1).trans rfl
   have hfs39 := blk_frozen BK406.out 1
   have hns39_0 := NB394_406.out
   have hns39_1 := NB395_406.out
   have hns39_3 := NB407_406.out
   have hns39_4 := NB408_406.out
   have hns39_5 := NB409_406.out
   have hns39_6 := NB410_406.out
   have hms39_0 := NB406_394.out
   have hms39_1 := NB406_395.out
   have hms39_3 := NB406_407.out
   have hms39_4 := NB406_408.out
   have hms39_5 := NB406_409.out
   have hms39_6 := NB406_410.out
   refine skip_ (w1 := ?_) (by rfl) rfl ?_ ?_
   rotate_left
   ·go_simp
    rfl
   refine hK.out _ _ ⟨gb406, gb407, gb408, gb409, gb410, m15_, m16_, m17_, m18_, m19_, (by rw [ha.out]; exact putSel_none (v := undef) rfl), (by (with_reducible repeat (first | refine blk_drewN ?_ _ | refine blk_drew ?_ | refine blk_alloc ?_ _)); refine blk_far ?_ NB394_406.out _; (with_reducible repeat (first | refine blk_drewN ?_ _ | refine blk_drew ?_ | refine blk_alloc ?_ _)); refine blk_far ?_ NB394_406.out _; (with_reducible repeat (first | refine blk_drewN ?_ _ | refine blk_drew ?_ | refine blk_alloc ?_ _)); exact BK394.out), (by (with_reducible repeat (first | refine blk_drewN ?_ _ | refine blk_drew ?_ | refine blk_alloc ?_ _)); refine blk_far ?_ NB395_406.out _; (with_reducible repeat (first | refine blk_drewN ?_ _ | refine blk_drew ?_ | refine blk_alloc ?_ _)); refine blk_far ?_ NB395_406.out _; (with_reducible repeat (first | refine blk_drewN ?_ _ | refine blk_drew ?_ | refine blk_alloc ?_ _)); exact BK395.out), (by repeat (first | (with_reducible first | exact HB.out | apply below_alloc | apply pw_below_drewN | apply below_drew1 | refine below_set ?_ GE394.out | refine below_set ?_ GE395.out | refine below_set ?_ GE406.out | refine below_set ?_ GE407.out | refine below_set ?_ GE408.out | refine below_set ?_ GE409.out | refine below_set ?_ GE410.out) | exact HB.out)), fun _ _ => NB407_406.out, fun _ _ => NB406_407.out, fun _ _ => NB408_406.out, fun _ _ => NB406_408.out, fun _ _ => NB409_406.out, fun _ _ => NB406_409.out, fun _ _ => NB410_406.out, fun _ _ => NB406_410.out, fun _ _ => NB408_407.out, fun _ _ => NB407_408.out, fun _ _ => NB409_407.out, fun _ _ => NB407_409.out, fun _ _ => NB410_407.out, fun _ _ => NB407_410.out, fun _ _ => NB409_408.out, fun _ _ => NB408_409.out, fun _ _ => NB410_408.out, fun _ _ => NB408_410.out, fun _ _ => NB410_409.out, fun _ _ => NB409_410.out, fun _ h1_ => absurd ((up_self b 20).symm.trans h1_) (by decide), fun _ => GW406.out, fun _ => GE406.out, fun _ => NB394_406.out, fun _ => NB406_394.out, fun _ => NB395_406.out, fun _ => NB406_395.out, fun _ _ => (by (with_reducible repeat (first | refine blk_drewN ?_ _ | refine blk_drew ?_ | refine blk_alloc ?_ _)); refine blk_far ?_ NB407_406.out _; (with_reducible repeat (first | refine blk_drewN ?_ _ | refine blk_drew ?_ | refine blk_alloc ?_ _)); refine blk_far ?_ NB407_406.out _; (with_reducible repeat (first | refine blk_drewN ?_ _ | refine blk_drew ?_ | refine blk_alloc ?_ _)); exact BK407.out), fun _ => GW407.out, fun _ => GE407.out, fun _ => NB394_407.out, fun _ => NB407_394.out, fun _ => NB395_407.out, fun _ => NB407_395.out, fun _ _ => (by (with_reducible repeat (first | refine blk_drewN ?_ _ | refine blk_drew ?_ | refine blk_alloc ?_ _)); refine blk_far ?_ NB408_406.out _; (with_reducible repeat (first | refine blk_drewN ?_ _ | refine blk_drew ?_ | refine blk_alloc ?_ _)); refine blk_far ?_ NB408_406.out _; (with_reducible repeat (first | refine blk_drewN ?_ _ | refine blk_drew ?_ | refine blk_alloc ?_ _)); exact BK408.out), fun _ => GW408.out, fun _ => GE408.out, fun _ => NB394_408.out, fun _ => NB408_394.out, fun _ => NB395_408.out, fun _ => NB408_395.out, fun _ _ => (by (with_reducible repeat (first | refine blk_drewN ?_ _ | refine blk_drew ?_ | refine blk_alloc ?_ _)); refine blk_far ?_ NB409_406.out _; (with_reducible repeat (first | refine blk_drewN ?_ _ | refine blk_drew ?_ | refine blk_alloc ?_ _)); refine blk_far ?_ NB409_406.out _; (with_reducible repeat (first | refine blk_drewN ?_ _ | refine blk_drew ?_ | refine blk_alloc ?_ _)); exact BK409.out), fun _ => GW409.out, fun _ => GE409.out, fun _ => NB394_409.out, fun _ => NB409_394.out, fun _ => NB395_409.out, fun _ => NB409_395.out, fun _ _ => (by (with_reducible repeat (first | refine blk_drewN ?_ _ | refine blk_drew ?_ | refine blk_alloc ?_ _)); refine blk_far ?_ NB410_406.out _; (with_reducible repeat (first | refine blk_drewN ?_ _ | refine blk_drew ?_ | refine blk_alloc ?_ _)); refine blk_far ?_ NB410_406.out _; (with_reducible repeat (first | refine blk_drewN ?_ _ | refine blk_drew ?_ | refine blk_alloc ?_ _)); exact BK410.out), fun _ => GW410.out, fun _ => GE410.out, fun _ => NB394_410.out, fun _ => NB410_394.out, fun _ => NB395_410.out, fun _ => NB410_395.out, fun _ => (by (with_reducible repeat (first | refine blk_drewN ?_ _ | refine blk_drew ?_ | refine blk_alloc ?_ _)); refine blk_put (cs := #[.int .i64 t396, .int .i64 0]) ?_ 1 _ rfl; (with_reducible repeat (first | refine blk_drewN ?_ _ | refine blk_drew ?_ | refine blk_alloc ?_ _)); refine blk_put (cs := #[.int .i64 0, .int .i64 0]) ?_ 0 _ rfl; (with_reducible repeat (first | refine blk_drewN ?_ _ | refine blk_drew ?_ | refine blk_alloc ?_ _)); exact BK406.out), fun h0_ => absurd ((hoff 21 (by kernel_rfl)).symm.trans h0_) (by decide), fun h0_ => absurd ((hoff 22 (by kernel_rfl)).symm.trans h0_) (by decide), fun h0_ => absurd ((hoff 23 (by kernel_rfl)).symm.trans h0_) (by decide), fun h0_ => absurd ((hoff 24 (by kernel_rfl)).symm.trans h0_) (by decide), Q63, Q64, Q65, Q66, Q67⟩
  refine steps_cons ?_ ?_
  ·rintro b a w' ⟨gb406, gb407, gb408, gb409, gb410, m15_, m16_, m17_, m18_, m19_, ha, Q0, Q1, Q22, Q41, Q35, Q47, Q36, Q53, Q37, Q59, Q38, Q48, Q42, Q54, Q43, Q60, Q44, Q55, Q49, Q61, Q50, Q62, Q56, Q2, Q17, Q12, Q23, Q33, Q28, Q34, Q4, Q18, Q13, Q24, Q39, Q29, Q40, Q6, Q19, Q14, Q25, Q45, Q30, Q46, Q8, Q20, Q15, Q26, Q51, Q31, Q52, Q10, Q21, Q16, Q27, Q57, Q32, Q58, Q3, Q5, Q7, Q9, Q11, Q63, Q64, Q65, Q66, Q67⟩ hb_ hon hoff
   refine ⟨_, rfl, fun K hK => ?_⟩
   have e6 : a.tmps[6]? = some (m16_) := by rw [ha]; exact putSel_on (e := (16, 6, m16_)) 16 rfl rfl (hon 16 (by kernel_rfl)) rfl
   rw [Q64 (hon 16 (by kernel_rfl))] at e6
   have e15 : a.tmps[15]? = some (.agg #[.int .i64 t398, .int .i64 t399]) := by rw [ha]; exact putSel_on (e := (5, 15, .agg #[.int .i64 t398, .int .i64 t399])) 5 rfl rfl (hon 5 (by kernel_rfl)) rfl
   replace ha := Aside0.mk ha
   have BK394 := Aside0.mk Q0
   have BK395 := Aside0.mk Q1
   have HB := Aside0.mk Q22
   have NB407_406 := Aside0.mk (Q41 (hon 15 (by kernel_rfl)) (hon 16 (by kernel_rfl)))
   have NB406_407 := Aside0.mk (Q35 (hon 15 (by kernel_rfl)) (hon 16 (by kernel_rfl)))
   have NB408_406 := Aside0.mk (Q47 (hon 15 (by kernel_rfl)) (hon 17 (by kernel_rfl)))
   have NB406_408 := Aside0.mk (Q36 (hon 15 (by kernel_rfl)) (hon 17 (by kernel_rfl)))
   have NB409_406 := Aside0.mk (Q53 (hon 15 (by kernel_rfl)) (hon 18 (by kernel_rfl)))
   have NB406_409 := Aside0.mk (Q37 (hon 15 (by kernel_rfl)) (hon 18 (by kernel_rfl)))
   have NB410_406 := Aside0.mk (Q59 (hon 15 (by kernel_rfl)) (hon 19 (by kernel_rfl)))
   have NB406_410 := Aside0.mk (Q38 (hon 15 (by kernel_rfl)) (hon 19 (by kernel_rfl)))
   have NB408_407 := Aside0.mk (Q48 (hon 16 (by kernel_rfl)) (hon 17 (by kernel_rfl)))
   have NB407_408 := Aside0.mk (Q42 (hon 16 (by kernel_rfl)) (hon 17 (by kernel_rfl)))
   have NB409_407 := Aside0.mk (Q54 (hon 16 (by kernel_rfl)) (hon 18 (by kernel_rfl)))
   have NB407_409 := Aside0.mk (Q43 (hon 16 (by kernel_rfl)) (hon 18 (by kernel_rfl)))
   have NB410_407 := Aside0.mk (Q60 (hon 16 (by kernel_rfl)) (hon 19 (by kernel_rfl)))
   have NB407_410 := Aside0.mk (Q44 (hon 16 (by kernel_rfl)) (hon 19 (by kernel_rfl)))
   have NB409_408 := Aside0.mk (Q55 (hon 17 (by kernel_rfl)) (hon 18 (by kernel_rfl)))
   have NB408_409 := Aside0.mk (Q49 (hon 17 (by kernel_rfl)) (hon 18 (by kernel_rfl)))
   have NB410_408 := Aside0.mk (Q61 (hon 17 (by kernel_rfl)) (hon 19 (by kernel_rfl)))
   have NB408_410 := Aside0.mk (Q50 (hon 17 (by kernel_rfl)) (hon 19 (by kernel_rfl)))
   have NB410_409 := Aside0.mk (Q62 (hon 18 (by kernel_rfl)) (hon 19 (by kernel_rfl)))
   have NB409_410 := Aside0.mk (Q56 (hon 18 (by kernel_rfl)) (hon 19 (by kernel_rfl)))
   have GW406 := Aside0.mk (Q17 (hon 15 (by kernel_rfl)))
   have GE406 := Aside0.mk (Q12 (hon 15 (by kernel_rfl)))
   have NB394_406 := Aside0.mk (Q23 (hon 15 (by kernel_rfl)))
   have NB406_394 := Aside0.mk (Q33 (hon 15 (by kernel_rfl)))
   have NB395_406 := Aside0.mk (Q28 (hon 15 (by kernel_rfl)))
   have NB406_395 := Aside0.mk (Q34 (hon 15 (by kernel_rfl)))
   have BK407 := Aside0.mk (Q4 (hon 16 (by kernel_rfl)) hb_)
   have GW407 := Aside0.mk (Q18 (hon 16 (by kernel_rfl)))
   have GE407 := Aside0.mk (Q13 (hon 16 (by kernel_rfl)))
   have NB394_407 := Aside0.mk (Q24 (hon 16 (by kernel_rfl)))
   have NB407_394 := Aside0.mk (Q39 (hon 16 (by kernel_rfl)))
   have NB395_407 := Aside0.mk (Q29 (hon 16 (by kernel_rfl)))
   have NB407_395 := Aside0.mk (Q40 (hon 16 (by kernel_rfl)))
   have BK408 := Aside0.mk (Q6 (hon 17 (by kernel_rfl)) (hoff 22 (by kernel_rfl)))
   have GW408 := Aside0.mk (Q19 (hon 17 (by kernel_rfl)))
   have GE408 := Aside0.mk (Q14 (hon 17 (by kernel_rfl)))
   have NB394_408 := Aside0.mk (Q25 (hon 17 (by kernel_rfl)))
   have NB408_394 := Aside0.mk (Q45 (hon 17 (by kernel_rfl)))
   have NB395_408 := Aside0.mk (Q30 (hon 17 (by kernel_rfl)))
   have NB408_395 := Aside0.mk (Q46 (hon 17 (by kernel_rfl)))
   have BK409 := Aside0.mk (Q8 (hon 18 (by kernel_rfl)) (hoff 23 (by kernel_rfl)))
   have GW409 := Aside0.mk (Q20 (hon 18 (by kernel_rfl)))
   have GE409 := Aside0.mk (Q15 (hon 18 (by kernel_rfl)))
   have NB394_409 := Aside0.mk (Q26 (hon 18 (by kernel_rfl)))
   have NB409_394 := Aside0.mk (Q51 (hon 18 (by kernel_rfl)))
   have NB395_409 := Aside0.mk (Q31 (hon 18 (by kernel_rfl)))
   have NB409_395 := Aside0.mk (Q52 (hon 18 (by kernel_rfl)))
   have BK410 := Aside0.mk (Q10 (hon 19 (by kernel_rfl)) (hoff 24 (by kernel_rfl)))
   have GW410 := Aside0.mk (Q21 (hon 19 (by kernel_rfl)))
   have GE410 := Aside0.mk (Q16 (hon 19 (by kernel_rfl)))
   have NB394_410 := Aside0.mk (Q27 (hon 19 (by kernel_rfl)))
   have NB410_394 := Aside0.mk (Q57 (hon 19 (by kernel_rfl)))
   have NB395_410 := Aside0.mk (Q32 (hon 19 (by kernel_rfl)))
   have NB410_395 := Aside0.mk (Q58 (hon 19 (by kernel_rfl)))
   have BK406 := Aside0.mk (Q3 (hon 20 (by kernel_rfl)))
   have hs40 : w'.cell? ⟨gb407, 0, none⟩ = some (.int .i64 0) := (blk_cell BK407.out 0).trans rfl
   have hfs40 := blk_frozen BK407.out 0
   have hns40_0 := NB394_407.out
   have hns40_1 := NB395_407.out
   have hns40_2 := NB406_407.out
   have hns40_4 := NB408_407.out
   have hns40_5 := NB409_407.out
   have hns40_6 := NB410_407.out
   have hms40_0 := NB407_394.out
   have hms40_1 := NB407_395.out
   have hms40_2 := NB407_406.out
   have hms40_4 := NB407_408.out
   have hms40_5 := NB407_409.out
   have hms40_6 := NB407_410.out
   have hs41 : w'.cell? ⟨gb407, 1, none⟩ = some (.int .i64 0) := (blk_cell BK407.out 1).trans rfl
   have hfs41 := blk_frozen BK407.out 1
   have hns41_0 := NB394_407.out
   have hns41_1 := NB395_407.out
   have hns41_2 := NB406_407.out
   have hns41_4 := NB408_407.out
   have hns41_5 := NB409_407.out
   have hns41_6 := NB410_407.out
   have hms41_0 := NB407_394.out
   have hms41_1 := NB407_395.out
   have hms41_2 := NB407_406.out
   have hms41_4 := NB407_408.out
   have hms41_5 := NB407_409.out
   have hms41_6 := NB407_410.out
   refine skip_ (w1 := ?_) (by rfl) rfl ?_ ?_
   rotate_left
   ·go_simp
    rfl
   refine hK.out _ _ ⟨gb406, gb407, gb408, gb409, gb410, m15_, m16_, m17_, m18_, m19_, (by rw [ha.out]; exact putSel_none (v := undef) rfl), (by (with_reducible repeat (first | refine blk_drewN ?_ _ | refine blk_drew ?_ | refine blk_alloc ?_ _)); refine blk_far ?_ NB394_407.out _; (with_reducible repeat (first | refine blk_drewN ?_ _ | refine blk_drew ?_ | refine blk_alloc ?_ _)); refine blk_far ?_ NB394_407.out _; (with_reducible repeat (first | refine blk_drewN ?_ _ | refine blk_drew ?_ | refine blk_alloc ?_ _)); exact BK394.out), (by (with_reducible repeat (first | refine blk_drewN ?_ _ | refine blk_drew ?_ | refine blk_alloc ?_ _)); refine blk_far ?_ NB395_407.out _; (with_reducible repeat (first | refine blk_drewN ?_ _ | refine blk_drew ?_ | refine blk_alloc ?_ _)); refine blk_far ?_ NB395_407.out _; (with_reducible repeat (first | refine blk_drewN ?_ _ | refine blk_drew ?_ | refine blk_alloc ?_ _)); exact BK395.out), (by repeat (first | (with_reducible first | exact HB.out | apply below_alloc | apply pw_below_drewN | apply below_drew1 | refine below_set ?_ GE394.out | refine below_set ?_ GE395.out | refine below_set ?_ GE406.out | refine below_set ?_ GE407.out | refine below_set ?_ GE408.out | refine below_set ?_ GE409.out | refine below_set ?_ GE410.out) | exact HB.out)), fun _ _ => NB407_406.out, fun _ _ => NB406_407.out, fun _ _ => NB408_406.out, fun _ _ => NB406_408.out, fun _ _ => NB409_406.out, fun _ _ => NB406_409.out, fun _ _ => NB410_406.out, fun _ _ => NB406_410.out, fun _ _ => NB408_407.out, fun _ _ => NB407_408.out, fun _ _ => NB409_407.out, fun _ _ => NB407_409.out, fun _ _ => NB410_407.out, fun _ _ => NB407_410.out, fun _ _ => NB409_408.out, fun _ _ => NB408_409.out, fun _ _ => NB410_408.out, fun _ _ => NB408_410.out, fun _ _ => NB410_409.out, fun _ _ => NB409_410.out, fun _ h1_ => absurd ((hon 20 (by kernel_rfl)).symm.trans h1_) (by decide), fun _ => GW406.out, fun _ => GE406.out, fun _ => NB394_406.out, fun _ => NB406_394.out, fun _ => NB395_406.out, fun _ => NB406_395.out, fun _ h1_ => absurd ((up_self b 21).symm.trans h1_) (by decide), fun _ => GW407.out, fun _ => GE407.out, fun _ => NB394_407.out, fun _ => NB407_394.out, fun _ => NB395_407.out, fun _ => NB407_395.out, fun _ _ => (by (with_reducible repeat (first | refine blk_drewN ?_ _ | refine blk_drew ?_ | refine blk_alloc ?_ _)); refine blk_far ?_ NB408_407.out _; (with_reducible repeat (first | refine blk_drewN ?_ _ | refine blk_drew ?_ | refine blk_alloc ?_ _)); refine blk_far ?_ NB408_407.out _; (with_reducible repeat (first | refine blk_drewN ?_ _ | refine blk_drew ?_ | refine blk_alloc ?_ _)); exact BK408.out), fun _ => GW408.out, fun _ => GE408.out, fun _ => NB394_408.out, fun _ => NB408_394.out, fun _ => NB395_408.out, fun _ => NB408_395.out, fun _ _ => (by (with_reducible repeat (first | refine blk_drewN ?_ _ | refine blk_drew ?_ | refine blk_alloc ?_ _)); refine blk_far ?_ NB409_407.out _; (with_reducible repeat (first | refine blk_drewN ?_ _ | refine blk_drew ?_ | refine blk_alloc ?_ _)); refine blk_far ?_ NB409_407.out _; (with_reducible repeat (first | refine blk_drewN ?_ _ | refine blk_drew ?_ | refine blk_alloc ?_ _)); exact BK409.out), fun _ => GW409.out, fun _ => GE409.out, fun _ => NB394_409.out, fun _ => NB409_394.out, fun _ => NB395_409.out, fun _ => NB409_395.out, fun _ _ => (by (with_reducible repeat (first | refine blk_drewN ?_ _ | refine blk_drew ?_ | refine blk_alloc ?_ _)); refine blk_far ?_ NB410_407.out _; (with_reducible repeat (first | refine blk_drewN ?_ _ | refine blk_drew ?_ | refine blk_alloc ?_ _)); refine blk_far ?_ NB410_407.out _; (with_reducible repeat (first | refine blk_drewN ?_ _ | refine blk_drew ?_ | refine blk_alloc ?_ _)); exact BK410.out), fun _ => GW410.out, fun _ => GE410.out, fun _ => NB394_410.out, fun _ => NB410_394.out, fun _ => NB395_410.out, fun _ => NB410_395.out, fun _ => (by (with_reducible repeat (first | refine blk_drewN ?_ _ | refine blk_drew ?_ | refine blk_alloc ?_ _)); refine blk_far ?_ NB406_407.out _; (with_reducible repeat (first | refine blk_drewN ?_ _ | refine blk_drew ?_ | refine blk_alloc ?_ _)); refine blk_far ?_ NB406_407.out _; (with_reducible repeat (first | refine blk_drewN ?_ _ | refine blk_drew ?_ | refine blk_alloc ?_ _)); exact BK406.out), fun _ => (by (with_reducible repeat (first | refine blk_drewN ?_ _ | refine blk_drew ?_ | refine blk_alloc ?_ _)); refine blk_put (cs := #[.int .i64 t398, .int .i64 0]) ?_ 1 _ rfl; (with_reducible repeat (first | refine blk_drewN ?_ _ | refine blk_drew ?_ | refine blk_alloc ?_ _)); refine blk_put (cs := #[.int .i64 0, .int .i64 0]) ?_ 0 _ rfl; (with_reducible repeat (first | refine blk_drewN ?_ _ | refine blk_drew ?_ | refine blk_alloc ?_ _)); exact BK407.out), fun h0_ => absurd ((hoff 22 (by kernel_rfl)).symm.trans h0_) (by decide), fun h0_ => absurd ((hoff 23 (by kernel_rfl)).symm.trans h0_) (by decide), fun h0_ => absurd ((hoff 24 (by kernel_rfl)).symm.trans h0_) (by decide), Q63, Q64, Q65, Q66, Q67⟩
  refine steps_cons ?_ ?_
  ·rintro b a w' ⟨gb406, gb407, gb408, gb409, gb410, m15_, m16_, m17_, m18_, m19_, ha, Q0, Q1, Q22, Q41, Q35, Q47, Q36, Q53, Q37, Q59, Q38, Q48, Q42, Q54, Q43, Q60, Q44, Q55, Q49, Q61, Q50, Q62, Q56, Q2, Q17, Q12, Q23, Q33, Q28, Q34, Q4, Q18, Q13, Q24, Q39, Q29, Q40, Q6, Q19, Q14, Q25, Q45, Q30, Q46, Q8, Q20, Q15, Q26, Q51, Q31, Q52, Q10, Q21, Q16, Q27, Q57, Q32, Q58, Q3, Q5, Q7, Q9, Q11, Q63, Q64, Q65, Q66, Q67⟩ hb_ hon hoff
   refine ⟨_, rfl, fun K hK => ?_⟩
   have e7 : a.tmps[7]? = some (m17_) := by rw [ha]; exact putSel_on (e := (17, 7, m17_)) 17 rfl rfl (hon 17 (by kernel_rfl)) rfl
   rw [Q65 (hon 17 (by kernel_rfl))] at e7
   have e18 : a.tmps[18]? = some (.agg #[.int .i64 t400, .int .i64 t401]) := by rw [ha]; exact putSel_on (e := (8, 18, .agg #[.int .i64 t400, .int .i64 t401])) 8 rfl rfl (hon 8 (by kernel_rfl)) rfl
   replace ha := Aside0.mk ha
   have BK394 := Aside0.mk Q0
   have BK395 := Aside0.mk Q1
   have HB := Aside0.mk Q22
   have NB407_406 := Aside0.mk (Q41 (hon 15 (by kernel_rfl)) (hon 16 (by kernel_rfl)))
   have NB406_407 := Aside0.mk (Q35 (hon 15 (by kernel_rfl)) (hon 16 (by kernel_rfl)))
   have NB408_406 := Aside0.mk (Q47 (hon 15 (by kernel_rfl)) (hon 17 (by kernel_rfl)))
   have NB406_408 := Aside0.mk (Q36 (hon 15 (by kernel_rfl)) (hon 17 (by kernel_rfl)))
   have NB409_406 := Aside0.mk (Q53 (hon 15 (by kernel_rfl)) (hon 18 (by kernel_rfl)))
   have NB406_409 := Aside0.mk (Q37 (hon 15 (by kernel_rfl)) (hon 18 (by kernel_rfl)))
   have NB410_406 := Aside0.mk (Q59 (hon 15 (by kernel_rfl)) (hon 19 (by kernel_rfl)))
   have NB406_410 := Aside0.mk (Q38 (hon 15 (by kernel_rfl)) (hon 19 (by kernel_rfl)))
   have NB408_407 := Aside0.mk (Q48 (hon 16 (by kernel_rfl)) (hon 17 (by kernel_rfl)))
   have NB407_408 := Aside0.mk (Q42 (hon 16 (by kernel_rfl)) (hon 17 (by kernel_rfl)))
   have NB409_407 := Aside0.mk (Q54 (hon 16 (by kernel_rfl)) (hon 18 (by kernel_rfl)))
   have NB407_409 := Aside0.mk (Q43 (hon 16 (by kernel_rfl)) (hon 18 (by kernel_rfl)))
   have NB410_407 := Aside0.mk (Q60 (hon 16 (by kernel_rfl)) (hon 19 (by kernel_rfl)))
   have NB407_410 := Aside0.mk (Q44 (hon 16 (by kernel_rfl)) (hon 19 (by kernel_rfl)))
   have NB409_408 := Aside0.mk (Q55 (hon 17 (by kernel_rfl)) (hon 18 (by kernel_rfl)))
   have NB408_409 := Aside0.mk (Q49 (hon 17 (by kernel_rfl)) (hon 18 (by kernel_rfl)))
   have NB410_408 := Aside0.mk (Q61 (hon 17 (by kernel_rfl)) (hon 19 (by kernel_rfl)))
   have NB408_410 := Aside0.mk (Q50 (hon 17 (by kernel_rfl)) (hon 19 (by kernel_rfl)))
   have NB410_409 := Aside0.mk (Q62 (hon 18 (by kernel_rfl)) (hon 19 (by kernel_rfl)))
   have NB409_410 := Aside0.mk (Q56 (hon 18 (by kernel_rfl)) (hon 19 (by kernel_rfl)))
   have GW406 := Aside0.mk (Q17 (hon 15 (by kernel_rfl)))
   have GE406 := Aside0.mk (Q12 (hon 15 (by kernel_rfl)))
   have NB394_406 := Aside0.mk (Q23 (hon 15 (by kernel_rfl)))
   have NB406_394 := Aside0.mk (Q33 (hon 15 (by kernel_rfl)))
   have NB395_406 := Aside0.mk (Q28 (hon 15 (by kernel_rfl)))
   have NB406_395 := Aside0.mk (Q34 (hon 15 (by kernel_rfl)))
   have GW407 := Aside0.mk (Q18 (hon 16 (by kernel_rfl)))
   have GE407 := Aside0.mk (Q13 (hon 16 (by kernel_rfl)))
   have NB394_407 := Aside0.mk (Q24 (hon 16 (by kernel_rfl)))
   have NB407_394 := Aside0.mk (Q39 (hon 16 (by kernel_rfl)))
   have NB395_407 := Aside0.mk (Q29 (hon 16 (by kernel_rfl)))
   have NB407_395 := Aside0.mk (Q40 (hon 16 (by kernel_rfl)))
   have BK408 := Aside0.mk (Q6 (hon 17 (by kernel_rfl)) hb_)
   have GW408 := Aside0.mk (Q19 (hon 17 (by kernel_rfl)))
   have GE408 := Aside0.mk (Q14 (hon 17 (by kernel_rfl)))
   have NB394_408 := Aside0.mk (Q25 (hon 17 (by kernel_rfl)))
   have NB408_394 := Aside0.mk (Q45 (hon 17 (by kernel_rfl)))
   have NB395_408 := Aside0.mk (Q30 (hon 17 (by kernel_rfl)))
   have NB408_395 := Aside0.mk (Q46 (hon 17 (by kernel_rfl)))
   have BK409 := Aside0.mk (Q8 (hon 18 (by kernel_rfl)) (hoff 23 (by kernel_rfl)))
   have GW409 := Aside0.mk (Q20 (hon 18 (by kernel_rfl)))
   have GE409 := Aside0.mk (Q15 (hon 18 (by kernel_rfl)))
   have NB394_409 := Aside0.mk (Q26 (hon 18 (by kernel_rfl)))
   have NB409_394 := Aside0.mk (Q51 (hon 18 (by kernel_rfl)))
   have NB395_409 := Aside0.mk (Q31 (hon 18 (by kernel_rfl)))
   have NB409_395 := Aside0.mk (Q52 (hon 18 (by kernel_rfl)))
   have BK410 := Aside0.mk (Q10 (hon 19 (by kernel_rfl)) (hoff 24 (by kernel_rfl)))
   have GW410 := Aside0.mk (Q21 (hon 19 (by kernel_rfl)))
   have GE410 := Aside0.mk (Q16 (hon 19 (by kernel_rfl)))
   have NB394_410 := Aside0.mk (Q27 (hon 19 (by kernel_rfl)))
   have NB410_394 := Aside0.mk (Q57 (hon 19 (by kernel_rfl)))
   have NB395_410 := Aside0.mk (Q32 (hon 19 (by kernel_rfl)))
   have NB410_395 := Aside0.mk (Q58 (hon 19 (by kernel_rfl)))
   have BK406 := Aside0.mk (Q3 (hon 20 (by kernel_rfl)))
   have BK407 := Aside0.mk (Q5 (hon 21 (by kernel_rfl)))
   have hs42 : w'.cell? ⟨gb408, 0, none⟩ = some (.int .i64 0) := (blk_cell BK408.out 0).trans rfl
   have hfs42 := blk_frozen BK408.out 0
   have hns42_0 := NB394_408.out
   have hns42_1 := NB395_408.out
   have hns42_2 := NB406_408.out
   have hns42_3 := NB407_408.out
   have hns42_5 := NB409_408.out
   have hns42_6 := NB410_408.out
   have hms42_0 := NB408_394.out
   have hms42_1 := NB408_395.out
   have hms42_2 := NB408_406.out
   have hms42_3 := NB408_407.out
   have hms42_5 := NB408_409.out
   have hms42_6 := NB408_410.out
   have hs43 : w'.cell? ⟨gb408, 1, none⟩ = some (.int .i64 0) := (blk_cell BK408.out 1).trans rfl
   have hfs43 := blk_frozen BK408.out 1
   have hns43_0 := NB394_408.out
   have hns43_1 := NB395_408.out
   have hns43_2 := NB406_408.out
   have hns43_3 := NB407_408.out
   have hns43_5 := NB409_408.out
   have hns43_6 := NB410_408.out
   have hms43_0 := NB408_394.out
   have hms43_1 := NB408_395.out
   have hms43_2 := NB408_406.out
   have hms43_3 := NB408_407.out
   have hms43_5 := NB408_409.out
   have hms43_6 := NB408_410.out
   refine skip_ (w1 := ?_) (by rfl) rfl ?_ ?_
   rotate_left
   ·go_simp
    rfl
   refine hK.out _ _ ⟨gb406, gb407, gb408, gb409, gb410, m15_, m16_, m17_, m18_, m19_, (by rw [ha.out]; exact putSel_none (v := undef) rfl), (by (with_reducible repeat (first | refine blk_drewN ?_ _ | refine blk_drew ?_ | refine blk_alloc ?_ _)); refine blk_far ?_ NB394_408.out _; (with_reducible repeat (first | refine blk_drewN ?_ _ | refine blk_drew ?_ | refine blk_alloc ?_ _)); refine blk_far ?_ NB394_408.out _; (with_reducible repeat (first | refine blk_drewN ?_ _ | refine blk_drew ?_ | refine blk_alloc ?_ _)); exact BK394.out), (by (with_reducible repeat (first | refine blk_drewN ?_ _ | refine blk_drew ?_ | refine blk_alloc ?_ _)); refine blk_far ?_ NB395_408.out _; (with_reducible repeat (first | refine blk_drewN ?_ _ | refine blk_drew ?_ | refine blk_alloc ?_ _)); refine blk_far ?_ NB395_408.out _; (with_reducible repeat (first | refine blk_drewN ?_ _ | refine blk_drew ?_ | refine blk_alloc ?_ _)); exact BK395.out), (by repeat (first | (with_reducible first | exact HB.out | apply below_alloc | apply pw_below_drewN | apply below_drew1 | refine below_set ?_ GE394.out | refine below_set ?_ GE395.out | refine below_set ?_ GE406.out | refine below_set ?_ GE407.out | refine below_set ?_ GE408.out | refine below_set ?_ GE409.out | refine below_set ?_ GE410.out) | exact HB.out)), fun _ _ => NB407_406.out, fun _ _ => NB406_407.out, fun _ _ => NB408_406.out, fun _ _ => NB406_408.out, fun _ _ => NB409_406.out, fun _ _ => NB406_409.out, fun _ _ => NB410_406.out, fun _ _ => NB406_410.out, fun _ _ => NB408_407.out, fun _ _ => NB407_408.out, fun _ _ => NB409_407.out, fun _ _ => NB407_409.out, fun _ _ => NB410_407.out, fun _ _ => NB407_410.out, fun _ _ => NB409_408.out, fun _ _ => NB408_409.out, fun _ _ => NB410_408.out, fun _ _ => NB408_410.out, fun _ _ => NB410_409.out, fun _ _ => NB409_410.out, fun _ h1_ => absurd ((hon 20 (by kernel_rfl)).symm.trans h1_) (by decide), fun _ => GW406.out, fun _ => GE406.out, fun _ => NB394_406.out, fun _ => NB406_394.out, fun _ => NB395_406.out, fun _ => NB406_395.out, fun _ h1_ => absurd ((hon 21 (by kernel_rfl)).symm.trans h1_) (by decide), fun _ => GW407.out, fun _ => GE407.out, fun _ => NB394_407.out, fun _ => NB407_394.out, fun _ => NB395_407.out, fun _ => NB407_395.out, fun _ h1_ => absurd ((up_self b 22).symm.trans h1_) (by decide), fun _ => GW408.out, fun _ => GE408.out, fun _ => NB394_408.out, fun _ => NB408_394.out, fun _ => NB395_408.out, fun _ => NB408_395.out, fun _ _ => (by (with_reducible repeat (first | refine blk_drewN ?_ _ | refine blk_drew ?_ | refine blk_alloc ?_ _)); refine blk_far ?_ NB409_408.out _; (with_reducible repeat (first | refine blk_drewN ?_ _ | refine blk_drew ?_ | refine blk_alloc ?_ _)); refine blk_far ?_ NB409_408.out _; (with_reducible repeat (first | refine blk_drewN ?_ _ | refine blk_drew ?_ | refine blk_alloc ?_ _)); exact BK409.out), fun _ => GW409.out, fun _ => GE409.out, fun _ => NB394_409.out, fun _ => NB409_394.out, fun _ => NB395_409.out, fun _ => NB409_395.out, fun _ _ => (by (with_reducible repeat (first | refine blk_drewN ?_ _ | refine blk_drew ?_ | refine blk_alloc ?_ _)); refine blk_far ?_ NB410_408.out _; (with_reducible repeat (first | refine blk_drewN ?_ _ | refine blk_drew ?_ | refine blk_alloc ?_ _)); refine blk_far ?_ NB410_408.out _; (with_reducible repeat (first | refine blk_drewN ?_ _ | refine blk_drew ?_ | refine blk_alloc ?_ _)); exact BK410.out), fun _ => GW410.out, fun _ => GE410.out, fun _ => NB394_410.out, fun _ => NB410_394.out, fun _ => NB395_410.out, fun _ => NB410_395.out, fun _ => (by (with_reducible repeat (first | refine blk_drewN ?_ _ | refine blk_drew ?_ | refine blk_alloc ?_ _)); refine blk_far ?_ NB406_408.out _; (with_reducible repeat (first | refine blk_drewN ?_ _ | refine blk_drew ?_ | refine blk_alloc ?_ _)); refine blk_far ?_ NB406_408.out _; (with_reducible repeat (first | refine blk_drewN ?_ _ | refine blk_drew ?_ | refine blk_alloc ?_ _)); exact BK406.out), fun _ => (by (with_reducible repeat (first | refine blk_drewN ?_ _ | refine blk_drew ?_ | refine blk_alloc ?_ _)); refine blk_far ?_ NB407_408.out _; (with_reducible repeat (first | refine blk_drewN ?_ _ | refine blk_drew ?_ | refine blk_alloc ?_ _)); refine blk_far ?_ NB407_408.out _; (with_reducible repeat (first | refine blk_drewN ?_ _ | refine blk_drew ?_ | refine blk_alloc ?_ _)); exact BK407.out), fun _ => (by (with_reducible repeat (first | refine blk_drewN ?_ _ | refine blk_drew ?_ | refine blk_alloc ?_ _)); refine blk_put (cs := #[.int .i64 t400, .int .i64 0]) ?_ 1 _ rfl; (with_reducible repeat (first | refine blk_drewN ?_ _ | refine blk_drew ?_ | refine blk_alloc ?_ _)); refine blk_put (cs := #[.int .i64 0, .int .i64 0]) ?_ 0 _ rfl; (with_reducible repeat (first | refine blk_drewN ?_ _ | refine blk_drew ?_ | refine blk_alloc ?_ _)); exact BK408.out), fun h0_ => absurd ((hoff 23 (by kernel_rfl)).symm.trans h0_) (by decide), fun h0_ => absurd ((hoff 24 (by kernel_rfl)).symm.trans h0_) (by decide), Q63, Q64, Q65, Q66, Q67⟩
  refine steps_cons ?_ ?_
  ·rintro b a w' ⟨gb406, gb407, gb408, gb409, gb410, m15_, m16_, m17_, m18_, m19_, ha, Q0, Q1, Q22, Q41, Q35, Q47, Q36, Q53, Q37, Q59, Q38, Q48, Q42, Q54, Q43, Q60, Q44, Q55, Q49, Q61, Q50, Q62, Q56, Q2, Q17, Q12, Q23, Q33, Q28, Q34, Q4, Q18, Q13, Q24, Q39, Q29, Q40, Q6, Q19, Q14, Q25, Q45, Q30, Q46, Q8, Q20, Q15, Q26, Q51, Q31, Q52, Q10, Q21, Q16, Q27, Q57, Q32, Q58, Q3, Q5, Q7, Q9, Q11, Q63, Q64, Q65, Q66, Q67⟩ hb_ hon hoff
   refine ⟨_, rfl, fun K hK => ?_⟩
   have e8 : a.tmps[8]? = some (m18_) := by rw [ha]; exact putSel_on (e := (18, 8, m18_)) 18 rfl rfl (hon 18 (by kernel_rfl)) rfl
   rw [Q66 (hon 18 (by kernel_rfl))] at e8
   have e21 : a.tmps[21]? = some (.agg #[.int .i64 t402, .int .i64 t403]) := by rw [ha]; exact putSel_on (e := (11, 21, .agg #[.int .i64 t402, .int .i64 t403])) 11 rfl rfl (hon 11 (by kernel_rfl)) rfl
   replace ha := Aside0.mk ha
   have BK394 := Aside0.mk Q0
   have BK395 := Aside0.mk Q1
   have HB := Aside0.mk Q22
   have NB407_406 := Aside0.mk (Q41 (hon 15 (by kernel_rfl)) (hon 16 (by kernel_rfl)))
   have NB406_407 := Aside0.mk (Q35 (hon 15 (by kernel_rfl)) (hon 16 (by kernel_rfl)))
   have NB408_406 := Aside0.mk (Q47 (hon 15 (by kernel_rfl)) (hon 17 (by kernel_rfl)))
   have NB406_408 := Aside0.mk (Q36 (hon 15 (by kernel_rfl)) (hon 17 (by kernel_rfl)))
   have NB409_406 := Aside0.mk (Q53 (hon 15 (by kernel_rfl)) (hon 18 (by kernel_rfl)))
   have NB406_409 := Aside0.mk (Q37 (hon 15 (by kernel_rfl)) (hon 18 (by kernel_rfl)))
   have NB410_406 := Aside0.mk (Q59 (hon 15 (by kernel_rfl)) (hon 19 (by kernel_rfl)))
   have NB406_410 := Aside0.mk (Q38 (hon 15 (by kernel_rfl)) (hon 19 (by kernel_rfl)))
   have NB408_407 := Aside0.mk (Q48 (hon 16 (by kernel_rfl)) (hon 17 (by kernel_rfl)))
   have NB407_408 := Aside0.mk (Q42 (hon 16 (by kernel_rfl)) (hon 17 (by kernel_rfl)))
   have NB409_407 := Aside0.mk (Q54 (hon 16 (by kernel_rfl)) (hon 18 (by kernel_rfl)))
   have NB407_409 := Aside0.mk (Q43 (hon 16 (by kernel_rfl)) (hon 18 (by kernel_rfl)))
   have NB410_407 := Aside0.mk (Q60 (hon 16 (by kernel_rfl)) (hon 19 (by kernel_rfl)))
   have NB407_410 := Aside0.mk (Q44 (hon 16 (by kernel_rfl)) (hon 19 (by kernel_rfl)))
   have NB409_408 := Aside0.mk (Q55 (hon 17 (by kernel_rfl)) (hon 18 (by kernel_rfl)))
   have NB408_409 := Aside0.mk (Q49 (hon 17 (by kernel_rfl)) (hon 18 (by kernel_rfl)))
   have NB410_408 := Aside0.mk (Q61 (hon 17 (by kernel_rfl)) (hon 19 (by kernel_rfl)))
   have NB408_410 := Aside0.mk (Q50 (hon 17 (by kernel_rfl)) (hon 19 (by kernel_rfl)))
   have NB410_409 := Aside0.mk (Q62 (hon 18 (by kernel_rfl)) (hon 19 (by kernel_rfl)))
   have NB409_410 := Aside0.mk (Q56 (hon 18 (by kernel_rfl)) (hon 19 (by kernel_rfl)))
   have GW406 := Aside0.mk (Q17 (hon 15 (by kernel_rfl)))
   have GE406 := Aside0.mk (Q12 (hon 15 (by kernel_rfl)))
   have NB394_406 := Aside0.mk (Q23 (hon 15 (by kernel_rfl)))
   have NB406_394 := Aside0.mk (Q33 (hon 15 (by kernel_rfl)))
   have NB395_406 := Aside0.mk (Q28 (hon 15 (by kernel_rfl)))
   have NB406_395 := Aside0.mk (Q34 (hon 15 (by kernel_rfl)))
   have GW407 := Aside0.mk (Q18 (hon 16 (by kernel_rfl)))
   have GE407 := Aside0.mk (Q13 (hon 16 (by kernel_rfl)))
   have NB394_407 := Aside0.mk (Q24 (hon 16 (by kernel_rfl)))
   have NB407_394 := Aside0.mk (Q39 (hon 16 (by kernel_rfl)))
   have NB395_407 := Aside0.mk (Q29 (hon 16 (by kernel_rfl)))
   have NB407_395 := Aside0.mk (Q40 (hon 16 (by kernel_rfl)))
   have GW408 := Aside0.mk (Q19 (hon 17 (by kernel_rfl)))
   have GE408 := Aside0.mk (Q14 (hon 17 (by kernel_rfl)))
   have NB394_408 := Aside0.mk (Q25 (hon 17 (by kernel_rfl)))
   have NB408_394 := Aside0.mk (Q45 (hon 17 (by kernel_rfl)))
   have NB395_408 := Aside0.mk (Q30 (hon 17 (by kernel_rfl)))
   have NB408_395 := Aside0.mk (Q46 (hon 17 (by kernel_rfl)))
   have BK409 := Aside0.mk (Q8 (hon 18 (by kernel_rfl)) hb_)
   have GW409 := Aside0.mk (Q20 (hon 18 (by kernel_rfl)))
   have GE409 := Aside0.mk (Q15 (hon 18 (by kernel_rfl)))
   have NB394_409 := Aside0.mk (Q26 (hon 18 (by kernel_rfl)))
   have NB409_394 := Aside0.mk (Q51 (hon 18 (by kernel_rfl)))
   have NB395_409 := Aside0.mk (Q31 (hon 18 (by kernel_rfl)))
   have NB409_395 := Aside0.mk (Q52 (hon 18 (by kernel_rfl)))
   have BK410 := Aside0.mk (Q10 (hon 19 (by kernel_rfl)) (hoff 24 (by kernel_rfl)))
   have GW410 := Aside0.mk (Q21 (hon 19 (by kernel_rfl)))
   have GE410 := Aside0.mk (Q16 (hon 19 (by kernel_rfl)))
   have NB394_410 := Aside0.mk (Q27 (hon 19 (by kernel_rfl)))
   have NB410_394 := Aside0.mk (Q57 (hon 19 (by kernel_rfl)))
   have NB395_410 := Aside0.mk (Q32 (hon 19 (by kernel_rfl)))
   have NB410_395 := Aside0.mk (Q58 (hon 19 (by kernel_rfl)))
   have BK406 := Aside0.mk (Q3 (hon 20 (by kernel_rfl)))
   have BK407 := Aside0.mk (Q5 (hon 21 (by kernel_rfl)))
   have BK408 := Aside0.mk (Q7 (hon 22 (by kernel_rfl)))
   have hs44 : w'.cell? ⟨gb409, 0, none⟩ = some (.int .i64 0) := (blk_cell BK409.out 0).trans rfl
   have hfs44 := blk_frozen BK409.out 0
   have hns44_0 := NB394_409.out
   have hns44_1 := NB395_409.out
   have hns44_2 := NB406_409.out
   have hns44_3 := NB407_409.out
   have hns44_4 := NB408_409.out
   have hns44_6 := NB410_409.out
   have hms44_0 := NB409_394.out
   have hms44_1 := NB409_395.out
   have hms44_2 := NB409_406.out
   have hms44_3 := NB409_407.out
   have hms44_4 := NB409_408.out
   have hms44_6 := NB409_410.out
   have hs45 : w'.cell? ⟨gb409, 1, none⟩ = some (.int .i64 0) := (blk_cell BK409.out 1).trans rfl
   have hfs45 := blk_frozen BK409.out 1
   have hns45_0 := NB394_409.out
   have hns45_1 := NB395_409.out
   have hns45_2 := NB406_409.out
   have hns45_3 := NB407_409.out
   have hns45_4 := NB408_409.out
   have hns45_6 := NB410_409.out
   have hms45_0 := NB409_394.out
   have hms45_1 := NB409_395.out
   have hms45_2 := NB409_406.out
   have hms45_3 := NB409_407.out
   have hms45_4 := NB409_408.out
   have hms45_6 := NB409_410.out
   refine skip_ (w1 := ?_) (by rfl) rfl ?_ ?_
   rotate_left
   ·go_simp
    rfl
   refine hK.out _ _ ⟨gb406, gb407, gb408, gb409, gb410, m15_, m16_, m17_, m18_, m19_, (by rw [ha.out]; exact putSel_none (v := undef) rfl), (by (with_reducible repeat (first | refine blk_drewN ?_ _ | refine blk_drew ?_ | refine blk_alloc ?_ _)); refine blk_far ?_ NB394_409.out _; (with_reducible repeat (first | refine blk_drewN ?_ _ | refine blk_drew ?_ | refine blk_alloc ?_ _)); refine blk_far ?_ NB394_409.out _; (with_reducible repeat (first | refine blk_drewN ?_ _ | refine blk_drew ?_ | refine blk_alloc ?_ _)); exact BK394.out), (by (with_reducible repeat (first | refine blk_drewN ?_ _ | refine blk_drew ?_ | refine blk_alloc ?_ _)); refine blk_far ?_ NB395_409.out _; (with_reducible repeat (first | refine blk_drewN ?_ _ | refine blk_drew ?_ | refine blk_alloc ?_ _)); refine blk_far ?_ NB395_409.out _; (with_reducible repeat (first | refine blk_drewN ?_ _ | refine blk_drew ?_ | refine blk_alloc ?_ _)); exact BK395.out), (by repeat (first | (with_reducible first | exact HB.out | apply below_alloc | apply pw_below_drewN | apply below_drew1 | refine below_set ?_ GE394.out | refine below_set ?_ GE395.out | refine below_set ?_ GE406.out | refine below_set ?_ GE407.out | refine below_set ?_ GE408.out | refine below_set ?_ GE409.out | refine below_set ?_ GE410.out) | exact HB.out)), fun _ _ => NB407_406.out, fun _ _ => NB406_407.out, fun _ _ => NB408_406.out, fun _ _ => NB406_408.out, fun _ _ => NB409_406.out, fun _ _ => NB406_409.out, fun _ _ => NB410_406.out, fun _ _ => NB406_410.out, fun _ _ => NB408_407.out, fun _ _ => NB407_408.out, fun _ _ => NB409_407.out, fun _ _ => NB407_409.out, fun _ _ => NB410_407.out, fun _ _ => NB407_410.out, fun _ _ => NB409_408.out, fun _ _ => NB408_409.out, fun _ _ => NB410_408.out, fun _ _ => NB408_410.out, fun _ _ => NB410_409.out, fun _ _ => NB409_410.out, fun _ h1_ => absurd ((hon 20 (by kernel_rfl)).symm.trans h1_) (by decide), fun _ => GW406.out, fun _ => GE406.out, fun _ => NB394_406.out, fun _ => NB406_394.out, fun _ => NB395_406.out, fun _ => NB406_395.out, fun _ h1_ => absurd ((hon 21 (by kernel_rfl)).symm.trans h1_) (by decide), fun _ => GW407.out, fun _ => GE407.out, fun _ => NB394_407.out, fun _ => NB407_394.out, fun _ => NB395_407.out, fun _ => NB407_395.out, fun _ h1_ => absurd ((hon 22 (by kernel_rfl)).symm.trans h1_) (by decide), fun _ => GW408.out, fun _ => GE408.out, fun _ => NB394_408.out, fun _ => NB408_394.out, fun _ => NB395_408.out, fun _ => NB408_395.out, fun _ h1_ => absurd ((up_self b 23).symm.trans h1_) (by decide), fun _ => GW409.out, fun _ => GE409.out, fun _ => NB394_409.out, fun _ => NB409_394.out, fun _ => NB395_409.out, fun _ => NB409_395.out, fun _ _ => (by (with_reducible repeat (first | refine blk_drewN ?_ _ | refine blk_drew ?_ | refine blk_alloc ?_ _)); refine blk_far ?_ NB410_409.out _; (with_reducible repeat (first | refine blk_drewN ?_ _ | refine blk_drew ?_ | refine blk_alloc ?_ _)); refine blk_far ?_ NB410_409.out _; (with_reducible repeat (first | refine blk_drewN ?_ _ | refine blk_drew ?_ | refine blk_alloc ?_ _)); exact BK410.out), fun _ => GW410.out, fun _ => GE410.out, fun _ => NB394_410.out, fun _ => NB410_394.out, fun _ => NB395_410.out, fun _ => NB410_395.out, fun _ => (by (with_reducible repeat (first | refine blk_drewN ?_ _ | refine blk_drew ?_ | refine blk_alloc ?_ _)); refine blk_far ?_ NB406_409.out _; (with_reducible repeat (first | refine blk_drewN ?_ _ | refine blk_drew ?_ | refine blk_alloc ?_ _)); refine blk_far ?_ NB406_409.out _; (with_reducible repeat (first | refine blk_drewN ?_ _ | refine blk_drew ?_ | refine blk_alloc ?_ _)); exact BK406.out), fun _ => (by (with_reducible repeat (first | refine blk_drewN ?_ _ | refine blk_drew ?_ | refine blk_alloc ?_ _)); refine blk_far ?_ NB407_409.out _; (with_reducible repeat (first | refine blk_drewN ?_ _ | refine blk_drew ?_ | refine blk_alloc ?_ _)); refine blk_far ?_ NB407_409.out _; (with_reducible repeat (first | refine blk_drewN ?_ _ | refine blk_drew ?_ | refine blk_alloc ?_ _)); exact BK407.out), fun _ => (by (with_reducible repeat (first | refine blk_drewN ?_ _ | refine blk_drew ?_ | refine blk_alloc ?_ _)); refine blk_far ?_ NB408_409.out _; (with_reducible repeat (first | refine blk_drewN ?_ _ | refine blk_drew ?_ | refine blk_alloc ?_ _)); refine blk_far ?_ NB408_409.out _; (with_reducible repeat (first | refine blk_drewN ?_ _ | refine blk_drew ?_ | refine blk_alloc ?_ _)); exact BK408.out), fun _ => (by (with_reducible repeat (first | refine blk_drewN ?_ _ | refine blk_drew ?_ | refine blk_alloc ?_ _)); refine blk_put (cs := #[.int .i64 t402, .int .i64 0]) ?_ 1 _ rfl; (with_reducible repeat (first | refine blk_drewN ?_ _ | refine blk_drew ?_ | refine blk_alloc ?_ _)); refine blk_put (cs := #[.int .i64 0, .int .i64 0]) ?_ 0 _ rfl; (with_reducible repeat (first | refine blk_drewN ?_ _ | refine blk_drew ?_ | refine blk_alloc ?_ _)); exact BK409.out), fun h0_ => absurd ((hoff 24 (by kernel_rfl)).symm.trans h0_) (by decide), Q63, Q64, Q65, Q66, Q67⟩
  refine steps_cons ?_ ?_
  ·rintro b a w' ⟨gb406, gb407, gb408, gb409, gb410, m15_, m16_, m17_, m18_, m19_, ha, Q0, Q1, Q22, Q41, Q35, Q47, Q36, Q53, Q37, Q59, Q38, Q48, Q42, Q54, Q43, Q60, Q44, Q55, Q49, Q61, Q50, Q62, Q56, Q2, Q17, Q12, Q23, Q33, Q28, Q34, Q4, Q18, Q13, Q24, Q39, Q29, Q40, Q6, Q19, Q14, Q25, Q45, Q30, Q46, Q8, Q20, Q15, Q26, Q51, Q31, Q52, Q10, Q21, Q16, Q27, Q57, Q32, Q58, Q3, Q5, Q7, Q9, Q11, Q63, Q64, Q65, Q66, Q67⟩ hb_ hon hoff
   refine ⟨_, rfl, fun K hK => ?_⟩
   have e9 : a.tmps[9]? = some (m19_) := by rw [ha]; exact putSel_on (e := (19, 9, m19_)) 19 rfl rfl (hon 19 (by kernel_rfl)) rfl
   rw [Q67 (hon 19 (by kernel_rfl))] at e9
   have e24 : a.tmps[24]? = some (.agg #[.int .i64 t404, .int .i64 t405]) := by rw [ha]; exact putSel_on (e := (14, 24, .agg #[.int .i64 t404, .int .i64 t405])) 14 rfl rfl (hon 14 (by kernel_rfl)) rfl
   replace ha := Aside0.mk ha
   have BK394 := Aside0.mk Q0
   have BK395 := Aside0.mk Q1
   have HB := Aside0.mk Q22
   have NB407_406 := Aside0.mk (Q41 (hon 15 (by kernel_rfl)) (hon 16 (by kernel_rfl)))
   have NB406_407 := Aside0.mk (Q35 (hon 15 (by kernel_rfl)) (hon 16 (by kernel_rfl)))
   have NB408_406 := Aside0.mk (Q47 (hon 15 (by kernel_rfl)) (hon 17 (by kernel_rfl)))
   have NB406_408 := Aside0.mk (Q36 (hon 15 (by kernel_rfl)) (hon 17 (by kernel_rfl)))
   have NB409_406 := Aside0.mk (Q53 (hon 15 (by kernel_rfl)) (hon 18 (by kernel_rfl)))
   have NB406_409 := Aside0.mk (Q37 (hon 15 (by kernel_rfl)) (hon 18 (by kernel_rfl)))
   have NB410_406 := Aside0.mk (Q59 (hon 15 (by kernel_rfl)) (hon 19 (by kernel_rfl)))
   have NB406_410 := Aside0.mk (Q38 (hon 15 (by kernel_rfl)) (hon 19 (by kernel_rfl)))
   have NB408_407 := Aside0.mk (Q48 (hon 16 (by kernel_rfl)) (hon 17 (by kernel_rfl)))
   have NB407_408 := Aside0.mk (Q42 (hon 16 (by kernel_rfl)) (hon 17 (by kernel_rfl)))
   have NB409_407 := Aside0.mk (Q54 (hon 16 (by kernel_rfl)) (hon 18 (by kernel_rfl)))
   have NB407_409 := Aside0.mk (Q43 (hon 16 (by kernel_rfl)) (hon 18 (by kernel_rfl)))
   have NB410_407 := Aside0.mk (Q60 (hon 16 (by kernel_rfl)) (hon 19 (by kernel_rfl)))
   have NB407_410 := Aside0.mk (Q44 (hon 16 (by kernel_rfl)) (hon 19 (by kernel_rfl)))
   have NB409_408 := Aside0.mk (Q55 (hon 17 (by kernel_rfl)) (hon 18 (by kernel_rfl)))
   have NB408_409 := Aside0.mk (Q49 (hon 17 (by kernel_rfl)) (hon 18 (by kernel_rfl)))
   have NB410_408 := Aside0.mk (Q61 (hon 17 (by kernel_rfl)) (hon 19 (by kernel_rfl)))
   have NB408_410 := Aside0.mk (Q50 (hon 17 (by kernel_rfl)) (hon 19 (by kernel_rfl)))
   have NB410_409 := Aside0.mk (Q62 (hon 18 (by kernel_rfl)) (hon 19 (by kernel_rfl)))
   have NB409_410 := Aside0.mk (Q56 (hon 18 (by kernel_rfl)) (hon 19 (by kernel_rfl)))
   have GW406 := Aside0.mk (Q17 (hon 15 (by kernel_rfl)))
   have GE406 := Aside0.mk (Q12 (hon 15 (by kernel_rfl)))
   have NB394_406 := Aside0.mk (Q23 (hon 15 (by kernel_rfl)))
   have NB406_394 := Aside0.mk (Q33 (hon 15 (by kernel_rfl)))
   have NB395_406 := Aside0.mk (Q28 (hon 15 (by kernel_rfl)))
   have NB406_395 := Aside0.mk (Q34 (hon 15 (by kernel_rfl)))
   have GW407 := Aside0.mk (Q18 (hon 16 (by kernel_rfl)))
   have GE407 := Aside0.mk (Q13 (hon 16 (by kernel_rfl)))
   have NB394_407 := Aside0.mk (Q24 (hon 16 (by kernel_rfl)))
   have NB407_394 := Aside0.mk (Q39 (hon 16 (by kernel_rfl)))
   have NB395_407 := Aside0.mk (Q29 (hon 16 (by kernel_rfl)))
   have NB407_395 := Aside0.mk (Q40 (hon 16 (by kernel_rfl)))
   have GW408 := Aside0.mk (Q19 (hon 17 (by kernel_rfl)))
   have GE408 := Aside0.mk (Q14 (hon 17 (by kernel_rfl)))
   have NB394_408 := Aside0.mk (Q25 (hon 17 (by kernel_rfl)))
   have NB408_394 := Aside0.mk (Q45 (hon 17 (by kernel_rfl)))
   have NB395_408 := Aside0.mk (Q30 (hon 17 (by kernel_rfl)))
   have NB408_395 := Aside0.mk (Q46 (hon 17 (by kernel_rfl)))
   have GW409 := Aside0.mk (Q20 (hon 18 (by kernel_rfl)))
   have GE409 := Aside0.mk (Q15 (hon 18 (by kernel_rfl)))
   have NB394_409 := Aside0.mk (Q26 (hon 18 (by kernel_rfl)))
   have NB409_394 := Aside0.mk (Q51 (hon 18 (by kernel_rfl)))
   have NB395_409 := Aside0.mk (Q31 (hon 18 (by kernel_rfl)))
   have NB409_395 := Aside0.mk (Q52 (hon 18 (by kernel_rfl)))
   have BK410 := Aside0.mk (Q10 (hon 19 (by kernel_rfl)) hb_)
   have GW410 := Aside0.mk (Q21 (hon 19 (by kernel_rfl)))
   have GE410 := Aside0.mk (Q16 (hon 19 (by kernel_rfl)))
   have NB394_410 := Aside0.mk (Q27 (hon 19 (by kernel_rfl)))
   have NB410_394 := Aside0.mk (Q57 (hon 19 (by kernel_rfl)))
   have NB395_410 := Aside0.mk (Q32 (hon 19 (by kernel_rfl)))
   have NB410_395 := Aside0.mk (Q58 (hon 19 (by kernel_rfl)))
   have BK406 := Aside0.mk (Q3 (hon 20 (by kernel_rfl)))
   have BK407 := Aside0.mk (Q5 (hon 21 (by kernel_rfl)))
   have BK408 := Aside0.mk (Q7 (hon 22 (by kernel_rfl)))
   have BK409 := Aside0.mk (Q9 (hon 23 (by kernel_rfl)))
   have hs46 : w'.cell? ⟨gb410, 0, none⟩ = some (.int .i64 0) := (blk_cell BK410.out 0).trans rfl
   have hfs46 := blk_frozen BK410.out 0
   have hns46_0 := NB394_410.out
   have hns46_1 := NB395_410.out
   have hns46_2 := NB406_410.out
   have hns46_3 := NB407_410.out
   have hns46_4 := NB408_410.out
   have hns46_5 := NB409_410.out
   have hms46_0 := NB410_394.out
   have hms46_1 := NB410_395.out
   have hms46_2 := NB410_406.out
   have hms46_3 := NB410_407.out
   have hms46_4 := NB410_408.out
   have hms46_5 := NB410_409.out
   have hs47 : w'.cell? ⟨gb410, 1, none⟩ = some (.int .i64 0) := (blk_cell BK410.out 1).trans rfl
   have hfs47 := blk_frozen BK410.out 1
   have hns47_0 := NB394_410.out
   have hns47_1 := NB395_410.out
   have hns47_2 := NB406_410.out
   have hns47_3 := NB407_410.out
   have hns47_4 := NB408_410.out
   have hns47_5 := NB409_410.out
   have hms47_0 := NB410_394.out
   have hms47_1 := NB410_395.out
   have hms47_2 := NB410_406.out
   have hms47_3 := NB410_407.out
   have hms47_4 := NB410_408.out
   have hms47_5 := NB410_409.out
   refine skip_ (w1 := ?_) (by rfl) rfl ?_ ?_
   rotate_left
   ·go_simp
    rfl
   refine hK.out _ _ ⟨gb406, gb407, gb408, gb409, gb410, m15_, m16_, m17_, m18_, m19_, (by rw [ha.out]; exact putSel_none (v := undef) rfl), (by (with_reducible repeat (first | refine blk_drewN ?_ _ | refine blk_drew ?_ | refine blk_alloc ?_ _)); refine blk_far ?_ NB394_410.out _; (with_reducible repeat (first | refine blk_drewN ?_ _ | refine blk_drew ?_ | refine blk_alloc ?_ _)); refine blk_far ?_ NB394_410.out _; (with_reducible repeat (first | refine blk_drewN ?_ _ | refine blk_drew ?_ | refine blk_alloc ?_ _)); exact BK394.out), (by (with_reducible repeat (first | refine blk_drewN ?_ _ | refine blk_drew ?_ | refine blk_alloc ?_ _)); refine blk_far ?_ NB395_410.out _; (with_reducible repeat (first | refine blk_drewN ?_ _ | refine blk_drew ?_ | refine blk_alloc ?_ _)); refine blk_far ?_ NB395_410.out _; (with_reducible repeat (first | refine blk_drewN ?_ _ | refine blk_drew ?_ | refine blk_alloc ?_ _)); exact BK395.out), (by repeat (first | (with_reducible first | exact HB.out | apply below_alloc | apply pw_below_drewN | apply below_drew1 | refine below_set ?_ GE394.out | refine below_set ?_ GE395.out | refine below_set ?_ GE406.out | refine below_set ?_ GE407.out | refine below_set ?_ GE408.out | refine below_set ?_ GE409.out | refine below_set ?_ GE410.out) | exact HB.out)), fun _ _ => NB407_406.out, fun _ _ => NB406_407.out, fun _ _ => NB408_406.out, fun _ _ => NB406_408.out, fun _ _ => NB409_406.out, fun _ _ => NB406_409.out, fun _ _ => NB410_406.out, fun _ _ => NB406_410.out, fun _ _ => NB408_407.out, fun _ _ => NB407_408.out, fun _ _ => NB409_407.out, fun _ _ => NB407_409.out, fun _ _ => NB410_407.out, fun _ _ => NB407_410.out, fun _ _ => NB409_408.out, fun _ _ => NB408_409.out, fun _ _ => NB410_408.out, fun _ _ => NB408_410.out, fun _ _ => NB410_409.out, fun _ _ => NB409_410.out, fun _ h1_ => absurd ((hon 20 (by kernel_rfl)).symm.trans h1_) (by decide), fun _ => GW406.out, fun _ => GE406.out, fun _ => NB394_406.out, fun _ => NB406_394.out, fun _ => NB395_406.out, fun _ => NB406_395.out, fun _ h1_ => absurd ((hon 21 (by kernel_rfl)).symm.trans h1_) (by decide), fun _ => GW407.out, fun _ => GE407.out, fun _ => NB394_407.out, fun _ => NB407_394.out, fun _ => NB395_407.out, fun _ => NB407_395.out, fun _ h1_ => absurd ((hon 22 (by kernel_rfl)).symm.trans h1_) (by decide), fun _ => GW408.out, fun _ => GE408.out, fun _ => NB394_408.out, fun _ => NB408_394.out, fun _ => NB395_408.out, fun _ => NB408_395.out, fun _ h1_ => absurd ((hon 23 (by kernel_rfl)).symm.trans h1_) (by decide), fun _ => GW409.out, fun _ => GE409.out, fun _ => NB394_409.out, fun _ => NB409_394.out, fun _ => NB395_409.out, fun _ => NB409_395.out, fun _ h1_ => absurd ((up_self b 24).symm.trans h1_) (by decide), fun _ => GW410.out, fun _ => GE410.out, fun _ => NB394_410.out, fun _ => NB410_394.out, fun _ => NB395_410.out, fun _ => NB410_395.out, fun _ => (by (with_reducible repeat (first | refine blk_drewN ?_ _ | refine blk_drew ?_ | refine blk_alloc ?_ _)); refine blk_far ?_ NB406_410.out _; (with_reducible repeat (first | refine blk_drewN ?_ _ | refine blk_drew ?_ | refine blk_alloc ?_ _)); refine blk_far ?_ NB406_410.out _; (with_reducible repeat (first | refine blk_drewN ?_ _ | refine blk_drew ?_ | refine blk_alloc ?_ _)); exact BK406.out), fun _ => (by (with_reducible repeat (first | refine blk_drewN ?_ _ | refine blk_drew ?_ | refine blk_alloc ?_ _)); refine blk_far ?_ NB407_410.out _; (with_reducible repeat (first | refine blk_drewN ?_ _ | refine blk_drew ?_ | refine blk_alloc ?_ _)); refine blk_far ?_ NB407_410.out _; (with_reducible repeat (first | refine blk_drewN ?_ _ | refine blk_drew ?_ | refine blk_alloc ?_ _)); exact BK407.out), fun _ => (by (with_reducible repeat (first | refine blk_drewN ?_ _ | refine blk_drew ?_ | refine blk_alloc ?_ _)); refine blk_far ?_ NB408_410.out _; (with_reducible repeat (first | refine blk_drewN ?_ _ | refine blk_drew ?_ | refine blk_alloc ?_ _)); refine blk_far ?_ NB408_410.out _; (with_reducible repeat (first | refine blk_drewN ?_ _ | refine blk_drew ?_ | refine blk_alloc ?_ _)); exact BK408.out), fun _ => (by (with_reducible repeat (first | refine blk_drewN ?_ _ | refine blk_drew ?_ | refine blk_alloc ?_ _)); refine blk_far ?_ NB409_410.out _; (with_reducible repeat (first | refine blk_drewN ?_ _ | refine blk_drew ?_ | refine blk_alloc ?_ _)); refine blk_far ?_ NB409_410.out _; (with_reducible repeat (first | refine blk_drewN ?_ _ | refine blk_drew ?_ | refine blk_alloc ?_ _)); exact BK409.out), fun _ => (by (with_reducible repeat (first | refine blk_drewN ?_ _ | refine blk_drew ?_ | refine blk_alloc ?_ _)); refine blk_put (cs := #[.int .i64 t404, .int .i64 0]) ?_ 1 _ rfl; (with_reducible repeat (first | refine blk_drewN ?_ _ | refine blk_drew ?_ | refine blk_alloc ?_ _)); refine blk_put (cs := #[.int .i64 0, .int .i64 0]) ?_ 0 _ rfl; (with_reducible repeat (first | refine blk_drewN ?_ _ | refine blk_drew ?_ | refine blk_alloc ?_ _)); exact BK410.out), Q63, Q64, Q65, Q66, Q67⟩
  exact steps_nil
 rintro b a w47 hall ⟨gb406, gb407, gb408, gb409, gb410, m15_, m16_, m17_, m18_, m19_, ha, Q0, Q1, Q22, Q41, Q35, Q47, Q36, Q53, Q37, Q59, Q38, Q48, Q42, Q54, Q43, Q60, Q44, Q55, Q49, Q61, Q50, Q62, Q56, Q2, Q17, Q12, Q23, Q33, Q28, Q34, Q4, Q18, Q13, Q24, Q39, Q29, Q40, Q6, Q19, Q14, Q25, Q45, Q30, Q46, Q8, Q20, Q15, Q26, Q51, Q31, Q52, Q10, Q21, Q16, Q27, Q57, Q32, Q58, Q3, Q5, Q7, Q9, Q11, Q63, Q64, Q65, Q66, Q67⟩
 clear BK394 BK395 HB
 have hb0_ := hall 0 (by kernel_rfl)
 have hb1_ := hall 1 (by kernel_rfl)
 have hb2_ := hall 2 (by kernel_rfl)
 have hb3_ := hall 3 (by kernel_rfl)
 have hb4_ := hall 4 (by kernel_rfl)
 have hb5_ := hall 5 (by kernel_rfl)
 have hb6_ := hall 6 (by kernel_rfl)
 have hb7_ := hall 7 (by kernel_rfl)
 have hb8_ := hall 8 (by kernel_rfl)
 have hb9_ := hall 9 (by kernel_rfl)
 have hb10_ := hall 10 (by kernel_rfl)
 have hb11_ := hall 11 (by kernel_rfl)
 have hb12_ := hall 12 (by kernel_rfl)
 have hb13_ := hall 13 (by kernel_rfl)
 have hb14_ := hall 14 (by kernel_rfl)
 have hb15_ := hall 15 (by kernel_rfl)
 have hb16_ := hall 16 (by kernel_rfl)
 have hb17_ := hall 17 (by kernel_rfl)
 have hb18_ := hall 18 (by kernel_rfl)
 have hb19_ := hall 19 (by kernel_rfl)
 have hb20_ := hall 20 (by kernel_rfl)
 have hb21_ := hall 21 (by kernel_rfl)
 have hb22_ := hall 22 (by kernel_rfl)
 have hb23_ := hall 23 (by kernel_rfl)
 have hb24_ := hall 24 (by kernel_rfl)
 subst ha
 obtain rfl := Q63 hb15_
 obtain rfl := Q64 hb16_
 obtain rfl := Q65 hb17_
 obtain rfl := Q66 hb18_
 obtain rfl := Q67 hb19_
 simp only [putSel, hb0_, hb1_, hb2_, hb3_, hb4_, hb5_, hb6_, hb7_, hb8_, hb9_, hb10_, hb11_, hb12_, hb13_, hb14_, hb15_, hb16_, hb17_, hb18_, hb19_, hb20_, hb21_, hb22_, hb23_, hb24_, if_true, Act.put, List.setIfInBounds_toArray, List.set_cons_zero, List.set_cons_succ]
 have BK394 := Aside0.mk Q0
 clear Q0
 have BK395 := Aside0.mk Q1
 clear Q1
 have HB := Aside0.mk Q22
 clear Q22
 have NB407_406 := Aside0.mk (Q41 hb15_ hb16_)
 clear Q41
 have NB406_407 := Aside0.mk (Q35 hb15_ hb16_)
 clear Q35
 have NB408_406 := Aside0.mk (Q47 hb15_ hb17_)
 clear Q47
 have NB406_408 := Aside0.mk (Q36 hb15_ hb17_)
 clear Q36
 have NB409_406 := Aside0.mk (Q53 hb15_ hb18_)
 clear Q53
 have NB406_409 := Aside0.mk (Q37 hb15_ hb18_)
 clear Q37
 have NB410_406 := Aside0.mk (Q59 hb15_ hb19_)
 clear Q59
 have NB406_410 := Aside0.mk (Q38 hb15_ hb19_)
 clear Q38
 have NB408_407 := Aside0.mk (Q48 hb16_ hb17_)
 clear Q48
 have NB407_408 := Aside0.mk (Q42 hb16_ hb17_)
 clear Q42
 have NB409_407 := Aside0.mk (Q54 hb16_ hb18_)
 clear Q54
 have NB407_409 := Aside0.mk (Q43 hb16_ hb18_)
 clear Q43
 have NB410_407 := Aside0.mk (Q60 hb16_ hb19_)
 clear Q60
 have NB407_410 := Aside0.mk (Q44 hb16_ hb19_)
 clear Q44
 have NB409_408 := Aside0.mk (Q55 hb17_ hb18_)
 clear Q55
 have NB408_409 := Aside0.mk (Q49 hb17_ hb18_)
 clear Q49
 have NB410_408 := Aside0.mk (Q61 hb17_ hb19_)
 clear Q61
 have NB408_410 := Aside0.mk (Q50 hb17_ hb19_)
 clear Q50
 have NB410_409 := Aside0.mk (Q62 hb18_ hb19_)
 clear Q62
 have NB409_410 := Aside0.mk (Q56 hb18_ hb19_)
 clear Q56
 clear Q2
 have GW406 := Aside0.mk (Q17 hb15_)
 clear Q17
 have GE406 := Aside0.mk (Q12 hb15_)
 clear Q12
 have NB394_406 := Aside0.mk (Q23 hb15_)
 clear Q23
 have NB406_394 := Aside0.mk (Q33 hb15_)
 clear Q33
 have NB395_406 := Aside0.mk (Q28 hb15_)
 clear Q28
 have NB406_395 := Aside0.mk (Q34 hb15_)
 clear Q34
 clear Q4
 have GW407 := Aside0.mk (Q18 hb16_)
 clear Q18
 have GE407 := Aside0.mk (Q13 hb16_)
 clear Q13
 have NB394_407 := Aside0.mk (Q24 hb16_)
 clear Q24
 have NB407_394 := Aside0.mk (Q39 hb16_)
 clear Q39
 have NB395_407 := Aside0.mk (Q29 hb16_)
 clear Q29
 have NB407_395 := Aside0.mk (Q40 hb16_)
 clear Q40
 clear Q6
 have GW408 := Aside0.mk (Q19 hb17_)
 clear Q19
 have GE408 := Aside0.mk (Q14 hb17_)
 clear Q14
 have NB394_408 := Aside0.mk (Q25 hb17_)
 clear Q25
 have NB408_394 := Aside0.mk (Q45 hb17_)
 clear Q45
 have NB395_408 := Aside0.mk (Q30 hb17_)
 clear Q30
 have NB408_395 := Aside0.mk (Q46 hb17_)
 clear Q46
 clear Q8
 have GW409 := Aside0.mk (Q20 hb18_)
 clear Q20
 have GE409 := Aside0.mk (Q15 hb18_)
 clear Q15
 have NB394_409 := Aside0.mk (Q26 hb18_)
 clear Q26
 have NB409_394 := Aside0.mk (Q51 hb18_)
 clear Q51
 have NB395_409 := Aside0.mk (Q31 hb18_)
 clear Q31
 have NB409_395 := Aside0.mk (Q52 hb18_)
 clear Q52
 clear Q10
 have GW410 := Aside0.mk (Q21 hb19_)
 clear Q21
 have GE410 := Aside0.mk (Q16 hb19_)
 clear Q16
 have NB394_410 := Aside0.mk (Q27 hb19_)
 clear Q27
 have NB410_394 := Aside0.mk (Q57 hb19_)
 clear Q57
 have NB395_410 := Aside0.mk (Q32 hb19_)
 clear Q32
 have NB410_395 := Aside0.mk (Q58 hb19_)
 clear Q58
 have BK406 := Aside0.mk (Q3 hb20_)
 clear Q3
 have BK407 := Aside0.mk (Q5 hb21_)
 clear Q5
 have BK408 := Aside0.mk (Q7 hb22_)
 clear Q7
 have BK409 := Aside0.mk (Q9 hb23_)
 clear Q9
 have BK410 := Aside0.mk (Q11 hb24_)
 clear Q11
 clear hall hb0_ hb1_ hb2_ hb3_ hb4_ hb5_ hb6_ hb7_ hb8_ hb9_ hb10_ hb11_ hb12_ hb13_ hb14_ hb15_ hb16_ hb17_ hb18_ hb19_ hb20_ hb21_ hb22_ hb23_ hb24_
 have hnb48 := NB394_395.out
 have hnc48 := NB395_394.out
 have hnb49 := NB394_406.out
 have hnc49 := NB406_394.out
 have hnb50 := NB394_407.out
 have hnc50 := NB407_394.out
 have hnb51 := NB394_408.out
 have hnc51 := NB408_394.out
 have hnb52 := NB394_409.out
 have hnc52 := NB409_394.out
 have hnb53 := NB394_410.out
 have hnc53 := NB410_394.out
 have hcz54_0 : w47.cell? ⟨gb394, 0, none⟩ = some (.int .i64 a0_0) := (blk_cell BK394.out 0).trans rfl
 have hcz54_1 : w47.cell? ⟨gb394, 1, none⟩ = some (.int .i64 a0_1) := (blk_cell BK394.out 1).trans rfl
 have hfz54_0 := blk_frozen BK394.out 0
 have hfz54_1 := blk_frozen BK394.out 1
 have hnb55 := NB395_406.out
 have hnc55 := NB406_395.out
 have hnb56 := NB395_407.out
 have hnc56 := NB407_395.out
 have hnb57 := NB395_408.out
 have hnc57 := NB408_395.out
 have hnb58 := NB395_409.out
 have hnc58 := NB409_395.out
 have hnb59 := NB395_410.out
 have hnc59 := NB410_395.out
 have hcz60_0 : w47.cell? ⟨gb395, 0, none⟩ = some (.int .i64 a1_0) := (blk_cell BK395.out 0).trans rfl
 have hcz60_1 : w47.cell? ⟨gb395, 1, none⟩ = some (.int .i64 a1_1) := (blk_cell BK395.out 1).trans rfl
 have hfz60_0 := blk_frozen BK395.out 0
 have hfz60_1 := blk_frozen BK395.out 1
 have H := HZ_.out
 clear HZ_
 by_cases c9 : t411 = true
 ·subst c9
  have H1 : ((stencillaw02_live.f k).bind fun t413 => (if t413 = true then ((stencilref02_Add.f k a0_0 a0_1 a1_0 a1_1).bind fun bt414 => (if (t396 == bt414.1 && (t397 == bt414.2)) = true then ((stencilref02_Sub.f k a0_0 a0_1 a1_0 a1_1).bind fun bt416 => (if (t398 == bt416.1 && (t399 == bt416.2)) = true then ((stencilref02_Mul.f k a0_0 a0_1 a1_0 a1_1).bind fun bt418 => (if (t400 == bt418.1 && (t401 == bt418.2)) = true then ((stencilref02_Div.f k a0_0 a0_1 a1_0 a1_1).bind fun bt420 => (if (t402 == bt420.1 && (t403 == bt420.2)) = true then ((stencilref02_Mod.f k a0_0 a0_1 a1_0 a1_1).bind fun bt422 => (if (t404 == bt422.1 && (t405 == bt422.2)) = true then ((xnum_Neg.f k a0_0 a0_1).bind fun bt424 => ((stencilref02_Neg.f a0_0 a0_1).bind fun bt426 => (some (bt424.1 == bt426.1 && (bt424.2 == bt426.2))))) else (none))) else (none))) else (none))) else (none))) else (none))) else (none))) = some r := by rw [if_pos rfl] at H; exact H
  clear H
  have H := H1
  clear H1
  replace H := Option.bind_eq_some_iff.mp H
  obtain ⟨t413, A100, H⟩ := H
  replace H : (if t413 = true then ((stencilref02_Add.f k a0_0 a0_1 a1_0 a1_1).bind fun bt414 => (if (t396 == bt414.1 && (t397 == bt414.2)) = true then ((stencilref02_Sub.f k a0_0 a0_1 a1_0 a1_1).bind fun bt416 => (if (t398 == bt416.1 && (t399 == bt416.2)) = true then ((stencilref02_Mul.f k a0_0 a0_1 a1_0 a1_1).bind fun bt418 => (if (t400 == bt418.1 && (t401 == bt418.2)) = true then ((stencilref02_Div.f k a0_0 a0_1 a1_0 a1_1).bind fun bt420 => (if (t402 == bt420.1 && (t403 == bt420.2)) = true then ((stencilref02_Mod.f k a0_0 a0_1 a1_0 a1_1).bind fun bt422 => (if (t404 == bt422.1 && (t405 == bt422.2)) = true then ((xnum_Neg.f k a0_0 a0_1).bind fun bt424 => ((stencilref02_Neg.f a0_0 a0_1).bind fun bt426 => (some (bt424.1 == bt426.1 && (bt424.2 == bt426.2))))) else (none))) else (none))) else (none))) else (none))) else (none))) else (none)) = some r := H
  have A10 := Aside0.mk A100
  clear A100
  by_cases c11 : t413 = true
  ·subst c11
   have H1 : ((stencilref02_Add.f k a0_0 a0_1 a1_0 a1_1).bind fun bt414 => (if (t396 == bt414.1 && (t397 == bt414.2)) = true then ((stencilref02_Sub.f k a0_0 a0_1 a1_0 a1_1).bind fun bt416 => (if (t398 == bt416.1 && (t399 == bt416.2)) = true then ((stencilref02_Mul.f k a0_0 a0_1 a1_0 a1_1).bind fun bt418 => (if (t400 == bt418.1 && (t401 == bt418.2)) = true then ((stencilref02_Div.f k a0_0 a0_1 a1_0 a1_1).bind fun bt420 => (if (t402 == bt420.1 && (t403 == bt420.2)) = true then ((stencilref02_Mod.f k a0_0 a0_1 a1_0 a1_1).bind fun bt422 => (if (t404 == bt422.1 && (t405 == bt422.2)) = true then ((xnum_Neg.f k a0_0 a0_1).bind fun bt424 => ((stencilref02_Neg.f a0_0 a0_1).bind fun bt426 => (some (bt424.1 == bt426.1 && (bt424.2 == bt426.2))))) else (none))) else (none))) else (none))) else (none))) else (none))) = some r := by rw [if_pos rfl] at H; exact H
   clear H
   have H := H1
   clear H1
   replace H := Option.bind_eq_some_iff.mp H
   obtain ⟨⟨t414, t415⟩, A120, H⟩ := H
   replace H : (if (t396 == t414 && (t397 == t415)) = true then ((stencilref02_Sub.f k a0_0 a0_1 a1_0 a1_1).bind fun bt416 => (if (t398 == bt416.1 && (t399 == bt416.2)) = true then ((stencilref02_Mul.f k a0_0 a0_1 a1_0 a1_1).bind fun bt418 => (if (t400 == bt418.1 && (t401 == bt418.2)) = true then ((stencilref02_Div.f k a0_0 a0_1 a1_0 a1_1).bind fun bt420 => (if (t402 == bt420.1 && (t403 == bt420.2)) = true then ((stencilref02_Mod.f k a0_0 a0_1 a1_0 a1_1).bind fun bt422 => (if (t404 == bt422.1 && (t405 == bt422.2)) = true then ((xnum_Neg.f k a0_0 a0_1).bind fun bt424 => ((stencilref02_Neg.f a0_0 a0_1).bind fun bt426 => (some (bt424.1 == bt426.1 && (bt424.2 == bt426.2))))) else (none))) else (none))) else (none))) else (none))) else (none)) = some r := H
   have A12 := Aside0.mk A120
   clear A120
   by_cases c13 : (t396 == t414 && (t397 == t415)) = true
   ·rw [if_pos c13] at H
    have c13b0 : (t396 == t414 && (t397 == t415)) = true := c13
    (try (have c13b1 : decide (t396 = t414 && (t397 == t415)) = true := by simpa using c13))
    (try (have c13b2 : (t396 == t414 && (t397 == t415)) = true := by simpa using c13))
    clear c13
    replace H := Option.bind_eq_some_iff.mp H
    obtain ⟨⟨t416, t417⟩, A140, H⟩ := H
    replace H : (if (t398 == t416 && (t399 == t417)) = true then ((stencilref02_Mul.f k a0_0 a0_1 a1_0 a1_1).bind fun bt418 => (if (t400 == bt418.1 && (t401 == bt418.2)) = true then ((stencilref02_Div.f k a0_0 a0_1 a1_0 a1_1).bind fun bt420 => (if (t402 == bt420.1 && (t403 == bt420.2)) = true then ((stencilref02_Mod.f k a0_0 a0_1 a1_0 a1_1).bind fun bt422 => (if (t404 == bt422.1 && (t405 == bt422.2)) = true then ((xnum_Neg.f k a0_0 a0_1).bind fun bt424 => ((stencilref02_Neg.f a0_0 a0_1).bind fun bt426 => (some (bt424.1 == bt426.1 && (bt424.2 == bt426.2))))) else (none))) else (none))) else (none))) else (none)) = some r := H
    have A14 := Aside0.mk A140
    clear A140
    by_cases c15 : (t398 == t416 && (t399 == t417)) = true
    ·rw [if_pos c15] at H
     have c15b0 : (t398 == t416 && (t399 == t417)) = true := c15
     (try (have c15b1 : decide (t398 = t416 && (t399 == t417)) = true := by simpa using c15))
     (try (have c15b2 : (t398 == t416 && (t399 == t417)) = true := by simpa using c15))
     clear c15
     replace H := Option.bind_eq_some_iff.mp H
     obtain ⟨⟨t418, t419⟩, A160, H⟩ := H
     replace H : (if (t400 == t418 && (t401 == t419)) = true then ((stencilref02_Div.f k a0_0 a0_1 a1_0 a1_1).bind fun bt420 => (if (t402 == bt420.1 && (t403 == bt420.2)) = true then ((stencilref02_Mod.f k a0_0 a0_1 a1_0 a1_1).bind fun bt422 => (if (t404 == bt422.1 && (t405 == bt422.2)) = true then ((xnum_Neg.f k a0_0 a0_1).bind fun bt424 => ((stencilref02_Neg.f a0_0 a0_1).bind fun bt426 => (some (bt424.1 == bt426.1 && (bt424.2 == bt426.2))))) else (none))) else (none))) else (none)) = some r := H
     have A16 := Aside0.mk A160
     clear A160
     by_cases c17 : (t400 == t418 && (t401 == t419)) = true
     ·rw [if_pos c17] at H
      have c17b0 : (t400 == t418 && (t401 == t419)) = true := c17
      (try (have c17b1 : decide (t400 = t418 && (t401 == t419)) = true := by simpa using c17))
      (try (have c17b2 : (t400 == t418 && (t401 == t419)) = true := by simpa using c17))
      clear c17
      replace H := Option.bind_eq_some_iff.mp H
      obtain ⟨⟨t420, t421⟩, A180, H⟩ := H
      replace H : (if (t402 == t420 && (t403 == t421)) = true then ((stencilref02_Mod.f k a0_0 a0_1 a1_0 a1_1).bind fun bt422 => (if (t404 == bt422.1 && (t405 == bt422.2)) = true then ((xnum_Neg.f k a0_0 a0_1).bind fun bt424 => ((stencilref02_Neg.f a0_0 a0_1).bind fun bt426 => (some (bt424.1 == bt426.1 && (bt424.2 == bt426.2))))) else (none))) else (none)) = some r := H
      have A18 := Aside0.mk A180
      clear A180
      by_cases c19 : (t402 == t420 && (t403 == t421)) = true
      ·rw [if_pos c19] at H
       have c19b0 : (t402 == t420 && (t403 == t421)) = true := c19
       (try (have c19b1 : decide (t402 = t420 && (t403 == t421)) = true := by simpa using c19))
       (try (have c19b2 : (t402 == t420 && (t403 == t421)) = true := by simpa using c19))
       clear c19
       replace H := Option.bind_eq_some_iff.mp H
       obtain ⟨⟨t422, t423⟩, A200, H⟩ := H
       replace H : (if (t404 == t422 && (t405 == t423)) = true then ((xnum_Neg.f k a0_0 a0_1).bind fun bt424 => ((stencilref02_Neg.f a0_0 a0_1).bind fun bt426 => (some (bt424.1 == bt426.1 && (bt424.2 == bt426.2))))) else (none)) = some r := H
       have A20 := Aside0.mk A200
       clear A200
       by_cases c21 : (t404 == t422 && (t405 == t423)) = true
       ·rw [if_pos c21] at H
        have c21b0 : (t404 == t422 && (t405 == t423)) = true := c21
        (try (have c21b1 : decide (t404 = t422 && (t405 == t423)) = true := by simpa using c21))
        (try (have c21b2 : (t404 == t422 && (t405 == t423)) = true := by simpa using c21))
        clear c21
        replace H := Option.bind_eq_some_iff.mp H
        obtain ⟨⟨t424, t425⟩, A220, H⟩ := H
        replace H : ((stencilref02_Neg.f a0_0 a0_1).bind fun bt426 => (some (t424 == bt426.1 && (t425 == bt426.2)))) = some r := H
        have A22 := Aside0.mk A220
        clear A220
        replace H := Option.bind_eq_some_iff.mp H
        obtain ⟨⟨t426, t427⟩, A230, H⟩ := H
        replace H : (some (t424 == t426 && (t425 == t427))) = some r := H
        have A23 := Aside0.mk A230
        clear A230
        obtain rfl := Option.some.inj H
        try go_wp2_with (first | ((with_reducible refine gate_callee (f := 24) rfl ?_); refine goesL_ (some 27) rfl rfl Tryz.func24 (by kernel_rfl) rfl #[.agg #[.int .i64 a0_0, .int .i64 a0_1], .agg #[.int .i64 a1_0, .int .i64 a1_1]] rfl (by (try simp only [List.map_toArray, List.map_cons, List.map_nil]); first | done | rfl | (simp only [List.length_drop, List.length_take]; rfl)) ?_; (with_reducible refine (stencillaw02_right.calls a0_0 a0_1 a1_0 a1_1 true _ ?side1 A8.out).mono ?_); (case side1 => first | exact HLD | exact Laid.below HLD HB.out); rintro e w61 ⟨rfl, hb⟩; refine ⟨_, rfl, ?_⟩; replace BK394 := zb BK394 hb; replace BK395 := zb BK395 hb; replace BK406 := zb BK406 hb; replace BK407 := zb BK407 hb; replace BK408 := zb BK408 hb; replace BK409 := zb BK409 hb; replace BK410 := zb BK410 hb; replace HB := zs HB hb; (try clear hb); (try clear hb2); (try clear hk); (try clear hi)))
        replace BK394 := Aside0.mk (blk_drew BK394.out)
        replace BK395 := Aside0.mk (blk_drew BK395.out)
        replace BK406 := Aside0.mk (blk_drew BK406.out)
        replace BK407 := Aside0.mk (blk_drew BK407.out)
        replace BK408 := Aside0.mk (blk_drew BK408.out)
        replace BK409 := Aside0.mk (blk_drew BK409.out)
        replace BK410 := Aside0.mk (blk_drew BK410.out)
        replace HB := Aside0.mk (below_drew1 HB.out)
        refine start_ (n := 44) (S := fun w' => w'.cell? ⟨gb406, 0, none⟩ = some (.int .i64 t396) ∧ w'.cell? ⟨gb406, 1, none⟩ = some (.int .i64 t397) ∧ w'.cell? ⟨gb394, 0, none⟩ = some (.int .i64 a0_0) ∧ w'.cell? ⟨gb394, 1, none⟩ = some (.int .i64 a0_1) ∧ w'.cell? ⟨gb395, 0, none⟩ = some (.int .i64 a1_0) ∧ w'.cell? ⟨gb395, 1, none⟩ = some (.int .i64 a1_1) ∧ w'.cell? ⟨gb407, 0, none⟩ = some (.int .i64 t398) ∧ w'.cell? ⟨gb407, 1, none⟩ = some (.int .i64 t399) ∧ w'.cell? ⟨gb408, 0, none⟩ = some (.int .i64 t400) ∧ w'.cell? ⟨gb408, 1, none⟩ = some (.int .i64 t401) ∧ w'.cell? ⟨gb409, 0, none⟩ = some (.int .i64 t402) ∧ w'.cell? ⟨gb409, 1, none⟩ = some (.int .i64 t403) ∧ w'.cell? ⟨gb410, 0, none⟩ = some (.int .i64 t404) ∧ w'.cell? ⟨gb410, 1, none⟩ = some (.int .i64 t405)) (ds := []) #[false, false, false, false, false, false, false, false, false, false, false, false, false, false, false, false, false, false, false, false, false, false, false, false, false, false, false, false, false, false, false, false, false, false, false, false, false, false, false, false, false, false, false, false] (by kernel_rfl) rfl rfl ⟨(blk_cell BK406.out 0).trans rfl, (blk_cell BK406.out 1).trans rfl, (blk_cell BK394.out 0).trans rfl, (blk_cell BK394.out 1).trans rfl, (blk_cell BK395.out 0).trans rfl, (blk_cell BK395.out 1).trans rfl, (blk_cell BK407.out 0).trans rfl, (blk_cell BK407.out 1).trans rfl, (blk_cell BK408.out 0).trans rfl, (blk_cell BK408.out 1).trans rfl, (blk_cell BK409.out 0).trans rfl, (blk_cell BK409.out 1).trans rfl, (blk_cell BK410.out 0).trans rfl, (blk_cell BK410.out 1).trans rfl⟩ (fun hHeld => ?_); refine with_tabW stencillaw02_XnumReckons.tab4 stencillaw02_XnumReckons.bits4 (fun HT_ HW_ => ?_)
        generalize w61.drew = w62 at BK394 BK395 BK406 BK407 BK408 BK409 BK410 HB hHeld ⊢
        refine one_ (i := 0) (N := some 30) #[true, false, false, false, false, false, false, false, false, false, false, false, false, false, false, false, false, false, false, false, false, false, false, false, false, false, false, false, false, false, false, false, false, false, false, false, false, false, false, false, false, false, false, false] rfl rfl (one_of HT_.out (by kernel_rfl)) (by decide) (fun K hK => ?_)
        refine goes_ Tryz.func25 (by kernel_rfl) rfl #[] (by rfl) rfl rfl (by (try simp only [List.map_toArray, List.map_cons, List.map_nil]); first | done | rfl | (simp only [List.length_drop, List.length_take]; rfl)) ?_
        with_reducible refine (stencillaw02_live.calls k  true _ ?side1 A10.out).mono ?_
        (case side1 => first | exact HLD | exact Laid.below HLD HB.out)
        rintro e w63 ⟨rfl, hb⟩
        refine ⟨_, rfl, ?_⟩
        replace BK394 := zb BK394 hb
        replace BK395 := zb BK395 hb
        replace BK406 := zb BK406 hb
        replace BK407 := zb BK407 hb
        replace BK408 := zb BK408 hb
        replace BK409 := zb BK409 hb
        replace BK410 := zb BK410 hb
        replace HB := zs HB hb
        (try clear hb)
        (try clear hb2)
        (try clear hk)
        (try clear hi)
        refine hK.out _ _ ⟨(blk_cell BK406.out 0).trans rfl, (blk_cell BK406.out 1).trans rfl, (blk_cell BK394.out 0).trans rfl, (blk_cell BK394.out 1).trans rfl, (blk_cell BK395.out 0).trans rfl, (blk_cell BK395.out 1).trans rfl, (blk_cell BK407.out 0).trans rfl, (blk_cell BK407.out 1).trans rfl, (blk_cell BK408.out 0).trans rfl, (blk_cell BK408.out 1).trans rfl, (blk_cell BK409.out 0).trans rfl, (blk_cell BK409.out 1).trans rfl, (blk_cell BK410.out 0).trans rfl, (blk_cell BK410.out 1).trans rfl⟩ (fun hHeld => ?_)
        clear hK K
        refine norm_ (a' := ?_) ?_ ?_
        rotate_left
        ·show Act.put _ (some 30) _ = _
         simp only [Act.put, List.setIfInBounds_toArray, List.set_cons_zero, List.set_cons_succ, i64_w, i32_w]
         rfl
        refine pure_ (i := 1) (N := some 31) (v := ?_) (a' := ?_) #[true, true, false, false, false, false, false, false, false, false, false, false, false, false, false, false, false, false, false, false, false, false, false, false, false, false, false, false, false, false, false, false, false, false, false, false, false, false, false, false, false, false, false, false] rfl rfl (any_of HT_.out (by kernel_rfl)) (fun _ _ _ h => h) (Or.inl ⟨by rfl, ?_⟩) ?_ ?_
        rotate_left
        ·intro w'
         go_simp
         with_reducible rfl
        rotate_left
        ·simp only [Act.put, List.setIfInBounds_toArray, List.set_cons_zero, List.set_cons_succ, i64_w, i32_w]
         rfl
        refine take_ (i := 2) (N := some 32) (v := ?_) (a' := ?_) #[true, true, true, false, false, false, false, false, false, false, false, false, false, false, false, false, false, false, false, false, false, false, false, false, false, false, false, false, false, false, false, false, false, false, false, false, false, false, false, false, false, false, false, false] rfl rfl (take_ofW HT_.out HW_.out (by kernel_rfl)) (fun _ _ _ h => h) (Or.inl ⟨by rfl, ?_⟩) hHeld ?_ ?_
        rotate_left
        ·rintro w' ⟨s0, s1, s2, s3, s4, s5, s6, s7, s8, s9, s10, s11, s12, s13⟩
         go_simp
         with_reducible rfl
        rotate_left
        ·simp only [Act.put, List.setIfInBounds_toArray, List.set_cons_zero, List.set_cons_succ, i64_w, i32_w]
         rfl
        refine take_ (i := 3) (N := some 33) (v := ?_) (a' := ?_) #[true, true, true, true, false, false, false, false, false, false, false, false, false, false, false, false, false, false, false, false, false, false, false, false, false, false, false, false, false, false, false, false, false, false, false, false, false, false, false, false, false, false, false, false] rfl rfl (take_ofW HT_.out HW_.out (by kernel_rfl)) (fun _ _ _ h => h) (Or.inl ⟨by rfl, ?_⟩) hHeld ?_ ?_
        rotate_left
        ·rintro w' ⟨s0, s1, s2, s3, s4, s5, s6, s7, s8, s9, s10, s11, s12, s13⟩
         go_simp
         with_reducible rfl
        rotate_left
        ·simp only [Act.put, List.setIfInBounds_toArray, List.set_cons_zero, List.set_cons_succ, i64_w, i32_w]
         rfl
        refine take_ (i := 4) (N := some 34) (v := ?_) (a' := ?_) #[true, true, true, true, true, false, false, false, false, false, false, false, false, false, false, false, false, false, false, false, false, false, false, false, false, false, false, false, false, false, false, false, false, false, false, false, false, false, false, false, false, false, false, false] rfl rfl (take_ofW HT_.out HW_.out (by kernel_rfl)) (fun _ _ _ h => h) (Or.inl ⟨by rfl, ?_⟩) hHeld ?_ ?_
        rotate_left
        ·rintro w' ⟨s0, s1, s2, s3, s4, s5, s6, s7, s8, s9, s10, s11, s12, s13⟩
         go_simp
         with_reducible rfl
        rotate_left
        ·simp only [Act.put, List.setIfInBounds_toArray, List.set_cons_zero, List.set_cons_succ, i64_w, i32_w]
         rfl
        refine one_ (i := 5) (N := some 35) #[true, true, true, true, true, true, false, false, false, false, false, false, false, false, false, false, false, false, false, false, false, false, false, false, false, false, false, false, false, false, false, false, false, false, false, false, false, false, false, false, false, false, false, false] rfl rfl (one_of HT_.out (by kernel_rfl)) (by decide) (fun K hK => ?_)
        refine goes_ Tryz.func26 (by kernel_rfl) rfl #[.agg #[.int .i64 a0_0, .int .i64 a0_1], .agg #[.int .i64 a1_0, .int .i64 a1_1]] (by rfl) rfl rfl (by (try simp only [List.map_toArray, List.map_cons, List.map_nil]); first | done | rfl | (simp only [List.length_drop, List.length_take]; rfl)) ?_
        with_reducible refine (stencilref02_Add.calls k a0_0 a0_1 a1_0 a1_1 t414 t415 _ ?side1 A12.out).mono ?_
        (case side1 => first | exact HLD | exact Laid.below HLD HB.out)
        rintro e w64 ⟨rfl, hb⟩
        refine ⟨_, rfl, ?_⟩
        replace BK394 := zb BK394 hb
        replace BK395 := zb BK395 hb
        replace BK406 := zb BK406 hb
        replace BK407 := zb BK407 hb
        replace BK408 := zb BK408 hb
        replace BK409 := zb BK409 hb
        replace BK410 := zb BK410 hb
        replace HB := zs HB hb
        (try clear hb)
        (try clear hb2)
        (try clear hk)
        (try clear hi)
        refine hK.out _ _ ⟨(blk_cell BK406.out 0).trans rfl, (blk_cell BK406.out 1).trans rfl, (blk_cell BK394.out 0).trans rfl, (blk_cell BK394.out 1).trans rfl, (blk_cell BK395.out 0).trans rfl, (blk_cell BK395.out 1).trans rfl, (blk_cell BK407.out 0).trans rfl, (blk_cell BK407.out 1).trans rfl, (blk_cell BK408.out 0).trans rfl, (blk_cell BK408.out 1).trans rfl, (blk_cell BK409.out 0).trans rfl, (blk_cell BK409.out 1).trans rfl, (blk_cell BK410.out 0).trans rfl, (blk_cell BK410.out 1).trans rfl⟩ (fun hHeld => ?_)
        clear hK K
        refine norm_ (a' := ?_) ?_ ?_
        rotate_left
        ·show Act.put _ (some 35) _ = _
         simp only [Act.put, List.setIfInBounds_toArray, List.set_cons_zero, List.set_cons_succ, i64_w, i32_w]
         rfl
        refine pure_ (i := 6) (N := some 36) (v := ?_) (a' := ?_) #[true, true, true, true, true, true, true, false, false, false, false, false, false, false, false, false, false, false, false, false, false, false, false, false, false, false, false, false, false, false, false, false, false, false, false, false, false, false, false, false, false, false, false, false] rfl rfl (any_of HT_.out (by kernel_rfl)) (fun _ _ _ h => h) (Or.inl ⟨by rfl, ?_⟩) ?_ ?_
        rotate_left
        ·intro w'
         go_simp
         with_reducible rfl
        rotate_left
        ·simp only [Act.put, List.setIfInBounds_toArray, List.set_cons_zero, List.set_cons_succ, i64_w, i32_w]
         rfl
        refine pure_ (i := 7) (N := some 37) (v := ?_) (a' := ?_) #[true, true, true, true, true, true, true, true, false, false, false, false, false, false, false, false, false, false, false, false, false, false, false, false, false, false, false, false, false, false, false, false, false, false, false, false, false, false, false, false, false, false, false, false] rfl rfl (any_of HT_.out (by kernel_rfl)) (fun _ _ _ h => h) (Or.inl ⟨by rfl, ?_⟩) ?_ ?_
        rotate_left
        ·intro w'
         go_simp
         with_reducible rfl
        rotate_left
        ·simp only [Act.put, List.setIfInBounds_toArray, List.set_cons_zero, List.set_cons_succ, i64_w, i32_w]
         rfl
        refine pure_ (i := 8) (N := some 38) (v := ?_) (a' := ?_) #[true, true, true, true, true, true, true, true, true, false, false, false, false, false, false, false, false, false, false, false, false, false, false, false, false, false, false, false, false, false, false, false, false, false, false, false, false, false, false, false, false, false, false, false] rfl rfl (any_of HT_.out (by kernel_rfl)) (fun _ _ _ h => h) (Or.inl ⟨by rfl, ?_⟩) ?_ ?_
        rotate_left
        ·intro w'
         go_simp
         with_reducible rfl
        rotate_left
        ·simp only [Act.put, List.setIfInBounds_toArray, List.set_cons_zero, List.set_cons_succ, i64_w, i32_w]
         rfl
        refine take_ (i := 9) (N := some 39) (v := ?_) (a' := ?_) #[true, true, true, true, true, true, true, true, true, true, false, false, false, false, false, false, false, false, false, false, false, false, false, false, false, false, false, false, false, false, false, false, false, false, false, false, false, false, false, false, false, false, false, false] rfl rfl (take_ofW HT_.out HW_.out (by kernel_rfl)) (fun _ _ _ h => h) (Or.inl ⟨by rfl, ?_⟩) hHeld ?_ ?_
        rotate_left
        ·rintro w' ⟨s0, s1, s2, s3, s4, s5, s6, s7, s8, s9, s10, s11, s12, s13⟩
         go_simp
         with_reducible rfl
        rotate_left
        ·simp only [Act.put, List.setIfInBounds_toArray, List.set_cons_zero, List.set_cons_succ, i64_w, i32_w]
         rfl
        refine take_ (i := 10) (N := some 40) (v := ?_) (a' := ?_) #[true, true, true, true, true, true, true, true, true, true, true, false, false, false, false, false, false, false, false, false, false, false, false, false, false, false, false, false, false, false, false, false, false, false, false, false, false, false, false, false, false, false, false, false] rfl rfl (take_ofW HT_.out HW_.out (by kernel_rfl)) (fun _ _ _ h => h) (Or.inl ⟨by rfl, ?_⟩) hHeld ?_ ?_
        rotate_left
        ·rintro w' ⟨s0, s1, s2, s3, s4, s5, s6, s7, s8, s9, s10, s11, s12, s13⟩
         go_simp
         with_reducible rfl
        rotate_left
        ·simp only [Act.put, List.setIfInBounds_toArray, List.set_cons_zero, List.set_cons_succ, i64_w, i32_w]
         rfl
        refine take_ (i := 11) (N := some 41) (v := ?_) (a' := ?_) #[true, true, true, true, true, true, true, true, true, true, true, true, false, false, false, false, false, false, false, false, false, false, false, false, false, false, false, false, false, false, false, false, false, false, false, false, false, false, false, false, false, false, false, false] rfl rfl (take_ofW HT_.out HW_.out (by kernel_rfl)) (fun _ _ _ h => h) (Or.inl ⟨by rfl, ?_⟩) hHeld ?_ ?_
        rotate_left
        ·rintro w' ⟨s0, s1, s2, s3, s4, s5, s6, s7, s8, s9, s10, s11, s12, s13⟩
         go_simp
         with_reducible rfl
        rotate_left
        ·simp only [Act.put, List.setIfInBounds_toArray, List.set_cons_zero, List.set_cons_succ, i64_w, i32_w]
         rfl
        refine one_ (i := 12) (N := some 42) #[true, true, true, true, true, true, true, true, true, true, true, true, true, false, false, false, false, false, false, false, false, false, false, false, false, false, false, false, false, false, false, false, false, false, false, false, false, false, false, false, false, false, false, false] rfl rfl (one_of HT_.out (by kernel_rfl)) (by decide) (fun K hK => ?_)
        refine goes_ Tryz.func27 (by kernel_rfl) rfl #[.agg #[.int .i64 a0_0, .int .i64 a0_1], .agg #[.int .i64 a1_0, .int .i64 a1_1]] (by rfl) rfl rfl (by (try simp only [List.map_toArray, List.map_cons, List.map_nil]); first | done | rfl | (simp only [List.length_drop, List.length_take]; rfl)) ?_
        with_reducible refine (stencilref02_Sub.calls k a0_0 a0_1 a1_0 a1_1 t416 t417 _ ?side1 A14.out).mono ?_
        (case side1 => first | exact HLD | exact Laid.below HLD HB.out)
        rintro e w65 ⟨rfl, hb⟩
        refine ⟨_, rfl, ?_⟩
        replace BK394 := zb BK394 hb
        replace BK395 := zb BK395 hb
        replace BK406 := zb BK406 hb
        replace BK407 := zb BK407 hb
        replace BK408 := zb BK408 hb
        replace BK409 := zb BK409 hb
        replace BK410 := zb BK410 hb
        replace HB := zs HB hb
        (try clear hb)
        (try clear hb2)
        (try clear hk)
        (try clear hi)
        refine hK.out _ _ ⟨(blk_cell BK406.out 0).trans rfl, (blk_cell BK406.out 1).trans rfl, (blk_cell BK394.out 0).trans rfl, (blk_cell BK394.out 1).trans rfl, (blk_cell BK395.out 0).trans rfl, (blk_cell BK395.out 1).trans rfl, (blk_cell BK407.out 0).trans rfl, (blk_cell BK407.out 1).trans rfl, (blk_cell BK408.out 0).trans rfl, (blk_cell BK408.out 1).trans rfl, (blk_cell BK409.out 0).trans rfl, (blk_cell BK409.out 1).trans rfl, (blk_cell BK410.out 0).trans rfl, (blk_cell BK410.out 1).trans rfl⟩ (fun hHeld => ?_)
        clear hK K
        refine norm_ (a' := ?_) ?_ ?_
        rotate_left
        ·show Act.put _ (some 42) _ = _
         simp only [Act.put, List.setIfInBounds_toArray, List.set_cons_zero, List.set_cons_succ, i64_w, i32_w]
         rfl
        refine pure_ (i := 13) (N := some 43) (v := ?_) (a' := ?_) #[true, true, true, true, true, true, true, true, true, true, true, true, true, true, false, false, false, false, false, false, false, false, false, false, false, false, false, false, false, false, false, false, false, false, false, false, false, false, false, false, false, false, false, false] rfl rfl (any_of HT_.out (by kernel_rfl)) (fun _ _ _ h => h) (Or.inl ⟨by rfl, ?_⟩) ?_ ?_
        rotate_left
        ·intro w'
         go_simp
         with_reducible rfl
        rotate_left
        ·simp only [Act.put, List.setIfInBounds_toArray, List.set_cons_zero, List.set_cons_succ, i64_w, i32_w]
         rfl
        refine pure_ (i := 14) (N := some 44) (v := ?_) (a' := ?_) #[true, true, true, true, true, true, true, true, true, true, true, true, true, true, true, false, false, false, false, false, false, false, false, false, false, false, false, false, false, false, false, false, false, false, false, false, false, false, false, false, false, false, false, false] rfl rfl (any_of HT_.out (by kernel_rfl)) (fun _ _ _ h => h) (Or.inl ⟨by rfl, ?_⟩) ?_ ?_
        rotate_left
        ·intro w'
         go_simp
         with_reducible rfl
        rotate_left
        ·simp only [Act.put, List.setIfInBounds_toArray, List.set_cons_zero, List.set_cons_succ, i64_w, i32_w]
         rfl
        refine pure_ (i := 15) (N := some 45) (v := ?_) (a' := ?_) #[true, true, true, true, true, true, true, true, true, true, true, true, true, true, true, true, false, false, false, false, false, false, false, false, false, false, false, false, false, false, false, false, false, false, false, false, false, false, false, false, false, false, false, false] rfl rfl (any_of HT_.out (by kernel_rfl)) (fun _ _ _ h => h) (Or.inl ⟨by rfl, ?_⟩) ?_ ?_
        rotate_left
        ·intro w'
         go_simp
         with_reducible rfl
        rotate_left
        ·simp only [Act.put, List.setIfInBounds_toArray, List.set_cons_zero, List.set_cons_succ, i64_w, i32_w]
         rfl
        refine take_ (i := 16) (N := some 46) (v := ?_) (a' := ?_) #[true, true, true, true, true, true, true, true, true, true, true, true, true, true, true, true, true, false, false, false, false, false, false, false, false, false, false, false, false, false, false, false, false, false, false, false, false, false, false, false, false, false, false, false] rfl rfl (take_ofW HT_.out HW_.out (by kernel_rfl)) (fun _ _ _ h => h) (Or.inl ⟨by rfl, ?_⟩) hHeld ?_ ?_
        rotate_left
        ·rintro w' ⟨s0, s1, s2, s3, s4, s5, s6, s7, s8, s9, s10, s11, s12, s13⟩
         go_simp
         with_reducible rfl
        rotate_left
        ·simp only [Act.put, List.setIfInBounds_toArray, List.set_cons_zero, List.set_cons_succ, i64_w, i32_w]
         rfl
        refine take_ (i := 17) (N := some 47) (v := ?_) (a' := ?_) #[true, true, true, true, true, true, true, true, true, true, true, true, true, true, true, true, true, true, false, false, false, false, false, false, false, false, false, false, false, false, false, false, false, false, false, false, false, false, false, false, false, false, false, false] rfl rfl (take_ofW HT_.out HW_.out (by kernel_rfl)) (fun _ _ _ h => h) (Or.inl ⟨by rfl, ?_⟩) hHeld ?_ ?_
        rotate_left
        ·rintro w' ⟨s0, s1, s2, s3, s4, s5, s6, s7, s8, s9, s10, s11, s12, s13⟩
         go_simp
         with_reducible rfl
        rotate_left
        ·simp only [Act.put, List.setIfInBounds_toArray, List.set_cons_zero, List.set_cons_succ, i64_w, i32_w]
         rfl
        refine take_ (i := 18) (N := some 48) (v := ?_) (a' := ?_) #[true, true, true, true, true, true, true, true, true, true, true, true, true, true, true, true, true, true, true, false, false, false, false, false, false, false, false, false, false, false, false, false, false, false, false, false, false, false, false, false, false, false, false, false] rfl rfl (take_ofW HT_.out HW_.out (by kernel_rfl)) (fun _ _ _ h => h) (Or.inl ⟨by rfl, ?_⟩) hHeld ?_ ?_
        rotate_left
        ·rintro w' ⟨s0, s1, s2, s3, s4, s5, s6, s7, s8, s9, s10, s11, s12, s13⟩
         go_simp
         with_reducible rfl
        rotate_left
        ·simp only [Act.put, List.setIfInBounds_toArray, List.set_cons_zero, List.set_cons_succ, i64_w, i32_w]
         rfl
        refine one_ (i := 19) (N := some 49) #[true, true, true, true, true, true, true, true, true, true, true, true, true, true, true, true, true, true, true, true, false, false, false, false, false, false, false, false, false, false, false, false, false, false, false, false, false, false, false, false, false, false, false, false] rfl rfl (one_of HT_.out (by kernel_rfl)) (by decide) (fun K hK => ?_)
        refine goes_ Tryz.func28 (by kernel_rfl) rfl #[.agg #[.int .i64 a0_0, .int .i64 a0_1], .agg #[.int .i64 a1_0, .int .i64 a1_1]] (by rfl) rfl rfl (by (try simp only [List.map_toArray, List.map_cons, List.map_nil]); first | done | rfl | (simp only [List.length_drop, List.length_take]; rfl)) ?_
        with_reducible refine (stencilref02_Mul.calls k a0_0 a0_1 a1_0 a1_1 t418 t419 _ ?side1 A16.out).mono ?_
        (case side1 => first | exact HLD | exact Laid.below HLD HB.out)
        rintro e w66 ⟨rfl, hb⟩
        refine ⟨_, rfl, ?_⟩
        replace BK394 := zb BK394 hb
        replace BK395 := zb BK395 hb
        replace BK406 := zb BK406 hb
        replace BK407 := zb BK407 hb
        replace BK408 := zb BK408 hb
        replace BK409 := zb BK409 hb
        replace BK410 := zb BK410 hb
        replace HB := zs HB hb
        (try clear hb)
        (try clear hb2)
        (try clear hk)
        (try clear hi)
        refine hK.out _ _ ⟨(blk_cell BK406.out 0).trans rfl, (blk_cell BK406.out 1).trans rfl, (blk_cell BK394.out 0).trans rfl, (blk_cell BK394.out 1).trans rfl, (blk_cell BK395.out 0).trans rfl, (blk_cell BK395.out 1).trans rfl, (blk_cell BK407.out 0).trans rfl, (blk_cell BK407.out 1).trans rfl, (blk_cell BK408.out 0).trans rfl, (blk_cell BK408.out 1).trans rfl, (blk_cell BK409.out 0).trans rfl, (blk_cell BK409.out 1).trans rfl, (blk_cell BK410.out 0).trans rfl, (blk_cell BK410.out 1).trans rfl⟩ (fun hHeld => ?_)
        clear hK K
        refine norm_ (a' := ?_) ?_ ?_
        rotate_left
        ·show Act.put _ (some 49) _ = _
         simp only [Act.put, List.setIfInBounds_toArray, List.set_cons_zero, List.set_cons_succ, i64_w, i32_w]
         rfl
        refine pure_ (i := 20) (N := some 50) (v := ?_) (a' := ?_) #[true, true, true, true, true, true, true, true, true, true, true, true, true, true, true, true, true, true, true, true, true, false, false, false, false, false, false, false, false, false, false, false, false, false, false, false, false, false, false, false, false, false, false, false] rfl rfl (any_of HT_.out (by kernel_rfl)) (fun _ _ _ h => h) (Or.inl ⟨by rfl, ?_⟩) ?_ ?_
        rotate_left
        ·intro w'
         go_simp
         with_reducible rfl
        rotate_left
        ·simp only [Act.put, List.setIfInBounds_toArray, List.set_cons_zero, List.set_cons_succ, i64_w, i32_w]
         rfl
        refine pure_ (i := 21) (N := some 51) (v := ?_) (a' := ?_) #[true, true, true, true, true, true, true, true, true, true, true, true, true, true, true, true, true, true, true, true, true, true, false, false, false, false, false, false, false, false, false, false, false, false, false, false, false, false, false, false, false, false, false, false] rfl rfl (any_of HT_.out (by kernel_rfl)) (fun _ _ _ h => h) (Or.inl ⟨by rfl, ?_⟩) ?_ ?_
        rotate_left
        ·intro w'
         go_simp
         with_reducible rfl
        rotate_left
        ·simp only [Act.put, List.setIfInBounds_toArray, List.set_cons_zero, List.set_cons_succ, i64_w, i32_w]
         rfl
        refine pure_ (i := 22) (N := some 52) (v := ?_) (a' := ?_) #[true, true, true, true, true, true, true, true, true, true, true, true, true, true, true, true, true, true, true, true, true, true, true, false, false, false, false, false, false, false, false, false, false, false, false, false, false, false, false, false, false, false, false, false] rfl rfl (any_of HT_.out (by kernel_rfl)) (fun _ _ _ h => h) (Or.inl ⟨by rfl, ?_⟩) ?_ ?_
        rotate_left
        ·intro w'
         go_simp
         with_reducible rfl
        rotate_left
        ·simp only [Act.put, List.setIfInBounds_toArray, List.set_cons_zero, List.set_cons_succ, i64_w, i32_w]
         rfl
        refine take_ (i := 23) (N := some 53) (v := ?_) (a' := ?_) #[true, true, true, true, true, true, true, true, true, true, true, true, true, true, true, true, true, true, true, true, true, true, true, true, false, false, false, false, false, false, false, false, false, false, false, false, false, false, false, false, false, false, false, false] rfl rfl (take_ofW HT_.out HW_.out (by kernel_rfl)) (fun _ _ _ h => h) (Or.inl ⟨by rfl, ?_⟩) hHeld ?_ ?_
        rotate_left
        ·rintro w' ⟨s0, s1, s2, s3, s4, s5, s6, s7, s8, s9, s10, s11, s12, s13⟩
         go_simp
         with_reducible rfl
        rotate_left
        ·simp only [Act.put, List.setIfInBounds_toArray, List.set_cons_zero, List.set_cons_succ, i64_w, i32_w]
         rfl
        refine take_ (i := 24) (N := some 54) (v := ?_) (a' := ?_) #[true, true, true, true, true, true, true, true, true, true, true, true, true, true, true, true, true, true, true, true, true, true, true, true, true, false, false, false, false, false, false, false, false, false, false, false, false, false, false, false, false, false, false, false] rfl rfl (take_ofW HT_.out HW_.out (by kernel_rfl)) (fun _ _ _ h => h) (Or.inl ⟨by rfl, ?_⟩) hHeld ?_ ?_
        rotate_left
        ·rintro w' ⟨s0, s1, s2, s3, s4, s5, s6, s7, s8, s9, s10, s11, s12, s13⟩
         go_simp
         with_reducible rfl
        rotate_left
        ·simp only [Act.put, List.setIfInBounds_toArray, List.set_cons_zero, List.set_cons_succ, i64_w, i32_w]
         rfl
        refine take_ (i := 25) (N := some 55) (v := ?_) (a' := ?_) #[true, true, true, true, true, true, true, true, true, true, true, true, true, true, true, true, true, true, true, true, true, true, true, true, true, true, false, false, false, false, false, false, false, false, false, false, false, false, false, false, false, false, false, false] rfl rfl (take_ofW HT_.out HW_.out (by kernel_rfl)) (fun _ _ _ h => h) (Or.inl ⟨by rfl, ?_⟩) hHeld ?_ ?_
        rotate_left
        ·rintro w' ⟨s0, s1, s2, s3, s4, s5, s6, s7, s8, s9, s10, s11, s12, s13⟩
         go_simp
         with_reducible rfl
        rotate_left
        ·simp only [Act.put, List.setIfInBounds_toArray, List.set_cons_zero, List.set_cons_succ, i64_w, i32_w]
         rfl
        refine one_ (i := 26) (N := some 56) #[true, true, true, true, true, true, true, true, true, true, true, true, true, true, true, true, true, true, true, true, true, true, true, true, true, true, true, false, false, false, false, false, false, false, false, false, false, false, false, false, false, false, false, false] rfl rfl (one_of HT_.out (by kernel_rfl)) (by decide) (fun K hK => ?_)
        refine goes_ Tryz.func29 (by kernel_rfl) rfl #[.agg #[.int .i64 a0_0, .int .i64 a0_1], .agg #[.int .i64 a1_0, .int .i64 a1_1]] (by rfl) rfl rfl (by (try simp only [List.map_toArray, List.map_cons, List.map_nil]); first | done | rfl | (simp only [List.length_drop, List.length_take]; rfl)) ?_
        with_reducible refine (stencilref02_Div.calls k a0_0 a0_1 a1_0 a1_1 t420 t421 _ ?side1 A18.out).mono ?_
        (case side1 => first | exact HLD | exact Laid.below HLD HB.out)
        rintro e w67 ⟨rfl, hb⟩
        refine ⟨_, rfl, ?_⟩
        replace BK394 := zb BK394 hb
        replace BK395 := zb BK395 hb
        replace BK406 := zb BK406 hb
        replace BK407 := zb BK407 hb
        replace BK408 := zb BK408 hb
        replace BK409 := zb BK409 hb
        replace BK410 := zb BK410 hb
        replace HB := zs HB hb
        (try clear hb)
        (try clear hb2)
        (try clear hk)
        (try clear hi)
        refine hK.out _ _ ⟨(blk_cell BK406.out 0).trans rfl, (blk_cell BK406.out 1).trans rfl, (blk_cell BK394.out 0).trans rfl, (blk_cell BK394.out 1).trans rfl, (blk_cell BK395.out 0).trans rfl, (blk_cell BK395.out 1).trans rfl, (blk_cell BK407.out 0).trans rfl, (blk_cell BK407.out 1).trans rfl, (blk_cell BK408.out 0).trans rfl, (blk_cell BK408.out 1).trans rfl, (blk_cell BK409.out 0).trans rfl, (blk_cell BK409.out 1).trans rfl, (blk_cell BK410.out 0).trans rfl, (blk_cell BK410.out 1).trans rfl⟩ (fun hHeld => ?_)
        clear hK K
        refine norm_ (a' := ?_) ?_ ?_
        rotate_left
        ·show Act.put _ (some 56) _ = _
         simp only [Act.put, List.setIfInBounds_toArray, List.set_cons_zero, List.set_cons_succ, i64_w, i32_w]
         rfl
        refine pure_ (i := 27) (N := some 57) (v := ?_) (a' := ?_) #[true, true, true, true, true, true, true, true, true, true, true, true, true, true, true, true, true, true, true, true, true, true, true, true, true, true, true, true, false, false, false, false, false, false, false, false, false, false, false, false, false, false, false, false] rfl rfl (any_of HT_.out (by kernel_rfl)) (fun _ _ _ h => h) (Or.inl ⟨by rfl, ?_⟩) ?_ ?_
        rotate_left
        ·intro w'
         go_simp
         with_reducible rfl
        rotate_left
        ·simp only [Act.put, List.setIfInBounds_toArray, List.set_cons_zero, List.set_cons_succ, i64_w, i32_w]
         rfl
        refine pure_ (i := 28) (N := some 58) (v := ?_) (a' := ?_) #[true, true, true, true, true, true, true, true, true, true, true, true, true, true, true, true, true, true, true, true, true, true, true, true, true, true, true, true, true, false, false, false, false, false, false, false, false, false, false, false, false, false, false, false] rfl rfl (any_of HT_.out (by kernel_rfl)) (fun _ _ _ h => h) (Or.inl ⟨by rfl, ?_⟩) ?_ ?_
        rotate_left
        ·intro w'
         go_simp
         with_reducible rfl
        rotate_left
        ·simp only [Act.put, List.setIfInBounds_toArray, List.set_cons_zero, List.set_cons_succ, i64_w, i32_w]
         rfl
        refine pure_ (i := 29) (N := some 59) (v := ?_) (a' := ?_) #[true, true, true, true, true, true, true, true, true, true, true, true, true, true, true, true, true, true, true, true, true, true, true, true, true, true, true, true, true, true, false, false, false, false, false, false, false, false, false, false, false, false, false, false] rfl rfl (any_of HT_.out (by kernel_rfl)) (fun _ _ _ h => h) (Or.inl ⟨by rfl, ?_⟩) ?_ ?_
        rotate_left
        ·intro w'
         go_simp
         with_reducible rfl
        rotate_left
        ·simp only [Act.put, List.setIfInBounds_toArray, List.set_cons_zero, List.set_cons_succ, i64_w, i32_w]
         rfl
        refine take_ (i := 30) (N := some 60) (v := ?_) (a' := ?_) #[true, true, true, true, true, true, true, true, true, true, true, true, true, true, true, true, true, true, true, true, true, true, true, true, true, true, true, true, true, true, true, false, false, false, false, false, false, false, false, false, false, false, false, false] rfl rfl (take_ofW HT_.out HW_.out (by kernel_rfl)) (fun _ _ _ h => h) (Or.inl ⟨by rfl, ?_⟩) hHeld ?_ ?_
        rotate_left
        ·rintro w' ⟨s0, s1, s2, s3, s4, s5, s6, s7, s8, s9, s10, s11, s12, s13⟩
         go_simp
         with_reducible rfl
        rotate_left
        ·simp only [Act.put, List.setIfInBounds_toArray, List.set_cons_zero, List.set_cons_succ, i64_w, i32_w]
         rfl
        refine take_ (i := 31) (N := some 61) (v := ?_) (a' := ?_) #[true, true, true, true, true, true, true, true, true, true, true, true, true, true, true, true, true, true, true, true, true, true, true, true, true, true, true, true, true, true, true, true, false, false, false, false, false, false, false, false, false, false, false, false] rfl rfl (take_ofW HT_.out HW_.out (by kernel_rfl)) (fun _ _ _ h => h) (Or.inl ⟨by rfl, ?_⟩) hHeld ?_ ?_
        rotate_left
        ·rintro w' ⟨s0, s1, s2, s3, s4, s5, s6, s7, s8, s9, s10, s11, s12, s13⟩
         go_simp
         with_reducible rfl
        rotate_left
        ·simp only [Act.put, List.setIfInBounds_toArray, List.set_cons_zero, List.set_cons_succ, i64_w, i32_w]
         rfl
        refine take_ (i := 32) (N := some 62) (v := ?_) (a' := ?_) #[true, true, true, true, true, true, true, true, true, true, true, true, true, true, true, true, true, true, true, true, true, true, true, true, true, true, true, true, true, true, true, true, true, false, false, false, false, false, false, false, false, false, false, false] rfl rfl (take_ofW HT_.out HW_.out (by kernel_rfl)) (fun _ _ _ h => h) (Or.inl ⟨by rfl, ?_⟩) hHeld ?_ ?_
        rotate_left
        ·rintro w' ⟨s0, s1, s2, s3, s4, s5, s6, s7, s8, s9, s10, s11, s12, s13⟩
         go_simp
         with_reducible rfl
        rotate_left
        ·simp only [Act.put, List.setIfInBounds_toArray, List.set_cons_zero, List.set_cons_succ, i64_w, i32_w]
         rfl
        refine one_ (i := 33) (N := some 63) #[true, true, true, true, true, true, true, true, true, true, true, true, true, true, true, true, true, true, true, true, true, true, true, true, true, true, true, true, true, true, true, true, true, true, false, false, false, false, false, false, false, false, false, false] rfl rfl (one_of HT_.out (by kernel_rfl)) (by decide) (fun K hK => ?_)
        refine goes_ Tryz.func30 (by kernel_rfl) rfl #[.agg #[.int .i64 a0_0, .int .i64 a0_1], .agg #[.int .i64 a1_0, .int .i64 a1_1]] (by rfl) rfl rfl (by (try simp only [List.map_toArray, List.map_cons, List.map_nil]); first | done | rfl | (simp only [List.length_drop, List.length_take]; rfl)) ?_
        with_reducible refine (stencilref02_Mod.calls k a0_0 a0_1 a1_0 a1_1 t422 t423 _ ?side1 A20.out).mono ?_
        (case side1 => first | exact HLD | exact Laid.below HLD HB.out)
        rintro e w68 ⟨rfl, hb⟩
        refine ⟨_, rfl, ?_⟩
        replace BK394 := zb BK394 hb
        replace BK395 := zb BK395 hb
        replace BK406 := zb BK406 hb
        replace BK407 := zb BK407 hb
        replace BK408 := zb BK408 hb
        replace BK409 := zb BK409 hb
        replace BK410 := zb BK410 hb
        replace HB := zs HB hb
        (try clear hb)
        (try clear hb2)
        (try clear hk)
        (try clear hi)
        refine hK.out _ _ ⟨(blk_cell BK406.out 0).trans rfl, (blk_cell BK406.out 1).trans rfl, (blk_cell BK394.out 0).trans rfl, (blk_cell BK394.out 1).trans rfl, (blk_cell BK395.out 0).trans rfl, (blk_cell BK395.out 1).trans rfl, (blk_cell BK407.out 0).trans rfl, (blk_cell BK407.out 1).trans rfl, (blk_cell BK408.out 0).trans rfl, (blk_cell BK408.out 1).trans rfl, (blk_cell BK409.out 0).trans rfl, (blk_cell BK409.out 1).trans rfl, (blk_cell BK410.out 0).trans rfl, (blk_cell BK410.out 1).trans rfl⟩ (fun hHeld => ?_)
        clear hK K
        refine norm_ (a' := ?_) ?_ ?_
        rotate_left
        ·show Act.put _ (some 63) _ = _
         simp only [Act.put, List.setIfInBounds_toArray, List.set_cons_zero, List.set_cons_succ, i64_w, i32_w]
         rfl
        refine pure_ (i := 34) (N := some 64) (v := ?_) (a' := ?_) #[true, true, true, true, true, true, true, true, true, true, true, true, true, true, true, true, true, true, true, true, true, true, true, true, true, true, true, true, true, true, true, true, true, true, true, false, false, false, false, false, false, false, false, false] rfl rfl (any_of HT_.out (by kernel_rfl)) (fun _ _ _ h => h) (Or.inl ⟨by rfl, ?_⟩) ?_ ?_
        rotate_left
        ·intro w'
         go_simp
         with_reducible rfl
        rotate_left
        ·simp only [Act.put, List.setIfInBounds_toArray, List.set_cons_zero, List.set_cons_succ, i64_w, i32_w]
         rfl
        refine pure_ (i := 35) (N := some 65) (v := ?_) (a' := ?_) #[true, true, true, true, true, true, true, true, true, true, true, true, true, true, true, true, true, true, true, true, true, true, true, true, true, true, true, true, true, true, true, true, true, true, true, true, false, false, false, false, false, false, false, false] rfl rfl (any_of HT_.out (by kernel_rfl)) (fun _ _ _ h => h) (Or.inl ⟨by rfl, ?_⟩) ?_ ?_
        rotate_left
        ·intro w'
         go_simp
         with_reducible rfl
        rotate_left
        ·simp only [Act.put, List.setIfInBounds_toArray, List.set_cons_zero, List.set_cons_succ, i64_w, i32_w]
         rfl
        refine pure_ (i := 36) (N := some 66) (v := ?_) (a' := ?_) #[true, true, true, true, true, true, true, true, true, true, true, true, true, true, true, true, true, true, true, true, true, true, true, true, true, true, true, true, true, true, true, true, true, true, true, true, true, false, false, false, false, false, false, false] rfl rfl (any_of HT_.out (by kernel_rfl)) (fun _ _ _ h => h) (Or.inl ⟨by rfl, ?_⟩) ?_ ?_
        rotate_left
        ·intro w'
         go_simp
         with_reducible rfl
        rotate_left
        ·simp only [Act.put, List.setIfInBounds_toArray, List.set_cons_zero, List.set_cons_succ, i64_w, i32_w]
         rfl
        refine take_ (i := 37) (N := some 67) (v := ?_) (a' := ?_) #[true, true, true, true, true, true, true, true, true, true, true, true, true, true, true, true, true, true, true, true, true, true, true, true, true, true, true, true, true, true, true, true, true, true, true, true, true, true, false, false, false, false, false, false] rfl rfl (take_ofW HT_.out HW_.out (by kernel_rfl)) (fun _ _ _ h => h) (Or.inl ⟨by rfl, ?_⟩) hHeld ?_ ?_
        rotate_left
        ·rintro w' ⟨s0, s1, s2, s3, s4, s5, s6, s7, s8, s9, s10, s11, s12, s13⟩
         go_simp
         with_reducible rfl
        rotate_left
        ·simp only [Act.put, List.setIfInBounds_toArray, List.set_cons_zero, List.set_cons_succ, i64_w, i32_w]
         rfl
        refine take_ (i := 39) (N := some 69) (v := ?_) (a' := ?_) #[true, true, true, true, true, true, true, true, true, true, true, true, true, true, true, true, true, true, true, true, true, true, true, true, true, true, true, true, true, true, true, true, true, true, true, true, true, true, false, true, false, false, false, false] rfl rfl (take_ofW HT_.out HW_.out (by kernel_rfl)) (fun _ _ _ h => h) (Or.inl ⟨by rfl, ?_⟩) hHeld ?_ ?_
        rotate_left
        ·rintro w' ⟨s0, s1, s2, s3, s4, s5, s6, s7, s8, s9, s10, s11, s12, s13⟩
         go_simp
         with_reducible rfl
        rotate_left
        ·simp only [Act.put, List.setIfInBounds_toArray, List.set_cons_zero, List.set_cons_succ, i64_w, i32_w]
         rfl
        refine one_ (i := 38) (N := some 68) #[true, true, true, true, true, true, true, true, true, true, true, true, true, true, true, true, true, true, true, true, true, true, true, true, true, true, true, true, true, true, true, true, true, true, true, true, true, true, true, true, false, false, false, false] rfl rfl (one_of HT_.out (by kernel_rfl)) (by decide) (fun K hK => ?_)
        refine goes_ Tryz.func31 (by kernel_rfl) rfl #[.agg #[.int .i64 a0_0, .int .i64 a0_1]] (by rfl) rfl rfl (by (try simp only [List.map_toArray, List.map_cons, List.map_nil]); first | done | rfl | (simp only [List.length_drop, List.length_take]; rfl)) ?_
        with_reducible refine (xnum_Neg.calls k a0_0 a0_1 t424 t425 _ ?side1 A22.out).mono ?_
        (case side1 => first | exact HLD | exact Laid.below HLD HB.out)
        rintro e w69 ⟨rfl, hb⟩
        refine ⟨_, rfl, ?_⟩
        replace BK394 := zb BK394 hb
        replace BK395 := zb BK395 hb
        replace BK406 := zb BK406 hb
        replace BK407 := zb BK407 hb
        replace BK408 := zb BK408 hb
        replace BK409 := zb BK409 hb
        replace BK410 := zb BK410 hb
        replace HB := zs HB hb
        (try clear hb)
        (try clear hb2)
        (try clear hk)
        (try clear hi)
        refine hK.out _ _ ⟨(blk_cell BK406.out 0).trans rfl, (blk_cell BK406.out 1).trans rfl, (blk_cell BK394.out 0).trans rfl, (blk_cell BK394.out 1).trans rfl, (blk_cell BK395.out 0).trans rfl, (blk_cell BK395.out 1).trans rfl, (blk_cell BK407.out 0).trans rfl, (blk_cell BK407.out 1).trans rfl, (blk_cell BK408.out 0).trans rfl, (blk_cell BK408.out 1).trans rfl, (blk_cell BK409.out 0).trans rfl, (blk_cell BK409.out 1).trans rfl, (blk_cell BK410.out 0).trans rfl, (blk_cell BK410.out 1).trans rfl⟩ (fun hHeld => ?_)
        clear hK K
        refine norm_ (a' := ?_) ?_ ?_
        rotate_left
        ·show Act.put _ (some 68) _ = _
         simp only [Act.put, List.setIfInBounds_toArray, List.set_cons_zero, List.set_cons_succ, i64_w, i32_w]
         rfl
        refine one_ (i := 40) (N := some 70) #[true, true, true, true, true, true, true, true, true, true, true, true, true, true, true, true, true, true, true, true, true, true, true, true, true, true, true, true, true, true, true, true, true, true, true, true, true, true, true, true, true, false, false, false] rfl rfl (one_of HT_.out (by kernel_rfl)) (by decide) (fun K hK => ?_)
        refine goes_ Tryz.func32 (by kernel_rfl) rfl #[.agg #[.int .i64 a0_0, .int .i64 a0_1]] (by rfl) rfl rfl (by (try simp only [List.map_toArray, List.map_cons, List.map_nil]); first | done | rfl | (simp only [List.length_drop, List.length_take]; rfl)) ?_
        with_reducible refine (stencilref02_Neg.calls a0_0 a0_1 t426 t427 _ ?side1 A23.out).mono ?_
        (case side1 => first | exact HLD | exact Laid.below HLD HB.out)
        rintro e w70 ⟨rfl, hb⟩
        refine ⟨_, rfl, ?_⟩
        replace BK394 := zb BK394 hb
        replace BK395 := zb BK395 hb
        replace BK406 := zb BK406 hb
        replace BK407 := zb BK407 hb
        replace BK408 := zb BK408 hb
        replace BK409 := zb BK409 hb
        replace BK410 := zb BK410 hb
        replace HB := zs HB hb
        (try clear hb)
        (try clear hb2)
        (try clear hk)
        (try clear hi)
        refine hK.out _ _ ⟨(blk_cell BK406.out 0).trans rfl, (blk_cell BK406.out 1).trans rfl, (blk_cell BK394.out 0).trans rfl, (blk_cell BK394.out 1).trans rfl, (blk_cell BK395.out 0).trans rfl, (blk_cell BK395.out 1).trans rfl, (blk_cell BK407.out 0).trans rfl, (blk_cell BK407.out 1).trans rfl, (blk_cell BK408.out 0).trans rfl, (blk_cell BK408.out 1).trans rfl, (blk_cell BK409.out 0).trans rfl, (blk_cell BK409.out 1).trans rfl, (blk_cell BK410.out 0).trans rfl, (blk_cell BK410.out 1).trans rfl⟩ (fun hHeld => ?_)
        clear hK K
        refine norm_ (a' := ?_) ?_ ?_
        rotate_left
        ·show Act.put _ (some 70) _ = _
         simp only [Act.put, List.setIfInBounds_toArray, List.set_cons_zero, List.set_cons_succ, i64_w, i32_w]
         rfl
        refine pure_ (i := 41) (N := some 71) (v := ?_) (a' := ?_) #[true, true, true, true, true, true, true, true, true, true, true, true, true, true, true, true, true, true, true, true, true, true, true, true, true, true, true, true, true, true, true, true, true, true, true, true, true, true, true, true, true, true, false, false] rfl rfl (any_of HT_.out (by kernel_rfl)) (fun _ _ _ h => h) (Or.inl ⟨by rfl, ?_⟩) ?_ ?_
        rotate_left
        ·intro w'
         go_simp
         with_reducible rfl
        rotate_left
        ·simp only [Act.put, List.setIfInBounds_toArray, List.set_cons_zero, List.set_cons_succ, i64_w, i32_w]
         rfl
        refine pure_ (i := 42) (N := some 72) (v := ?_) (a' := ?_) #[true, true, true, true, true, true, true, true, true, true, true, true, true, true, true, true, true, true, true, true, true, true, true, true, true, true, true, true, true, true, true, true, true, true, true, true, true, true, true, true, true, true, true, false] rfl rfl (any_of HT_.out (by kernel_rfl)) (fun _ _ _ h => h) (Or.inl ⟨by rfl, ?_⟩) ?_ ?_
        rotate_left
        ·intro w'
         go_simp
         with_reducible rfl
        rotate_left
        ·simp only [Act.put, List.setIfInBounds_toArray, List.set_cons_zero, List.set_cons_succ, i64_w, i32_w]
         rfl
        refine pure_ (i := 43) (N := some 4) (v := ?_) (a' := ?_) #[true, true, true, true, true, true, true, true, true, true, true, true, true, true, true, true, true, true, true, true, true, true, true, true, true, true, true, true, true, true, true, true, true, true, true, true, true, true, true, true, true, true, true, true] rfl rfl (any_of HT_.out (by kernel_rfl)) (fun _ _ _ h => h) (Or.inl ⟨by rfl, ?_⟩) ?_ ?_
        rotate_left
        ·intro w'
         go_simp
         with_reducible rfl
        rotate_left
        ·simp only [Act.put, List.setIfInBounds_toArray, List.set_cons_zero, List.set_cons_succ, i64_w, i32_w]
         rfl
        refine done_ (done_of HT_.out (by kernel_rfl)) ?_
        try go_wp2
        go_ret
        exact ⟨by first | rfl | (simp [errW_none, errW_some] <;> rfl) | (simp [*, errW_none, errW_some] <;> rfl), by repeat (first | (with_reducible first | exact HB.out | apply below_alloc | apply pw_below_drewN | apply below_drew1 | refine below_set ?_ GE394.out | refine below_set ?_ GE395.out | refine below_set ?_ GE406.out | refine below_set ?_ GE407.out | refine below_set ?_ GE408.out | refine below_set ?_ GE409.out | refine below_set ?_ GE410.out) | exact HB.out)⟩
       ·rw [if_neg c21] at H
        exact absurd H (by simp)
      ·rw [if_neg c19] at H
       exact absurd H (by simp)
     ·rw [if_neg c17] at H
      exact absurd H (by simp)
    ·rw [if_neg c15] at H
     exact absurd H (by simp)
   ·rw [if_neg c13] at H
    exact absurd H (by simp)
  ·replace c11 := Bool.eq_false_iff.mpr c11
   subst c11
   have H1 : (none) = some r := by rw [if_neg (show ¬ (false = true) by decide)] at H; exact H
   clear H
   have H := H1
   clear H1
   exact absurd H (by simp)
 ·replace c9 := Bool.eq_false_iff.mpr c9
  subst c9
  have H1 : ((stencillaw02_live.f k).bind fun t412 => (some t412)) = some r := by rw [if_neg (show ¬ (false = true) by decide)] at H; exact H
  clear H
  have H := H1
  clear H1
  replace H := Option.bind_eq_some_iff.mp H
  obtain ⟨t412, A710, H⟩ := H
  replace H : (some t412) = some r := H
  have A71 := Aside0.mk A710
  clear A710
  obtain rfl := Option.some.inj H
  try go_wp2_with (first | ((with_reducible refine gate_callee (f := 24) rfl ?_); refine goesL_ (some 27) rfl rfl Tryz.func24 (by kernel_rfl) rfl #[.agg #[.int .i64 a0_0, .int .i64 a0_1], .agg #[.int .i64 a1_0, .int .i64 a1_1]] rfl (by (try simp only [List.map_toArray, List.map_cons, List.map_nil]); first | done | rfl | (simp only [List.length_drop, List.length_take]; rfl)) ?_; (with_reducible refine (stencillaw02_right.calls a0_0 a0_1 a1_0 a1_1 false _ ?side1 A8.out).mono ?_); (case side1 => first | exact HLD | exact Laid.below HLD HB.out); rintro e w109 ⟨rfl, hb⟩; refine ⟨_, rfl, ?_⟩; replace BK394 := zb BK394 hb; replace BK395 := zb BK395 hb; replace BK406 := zb BK406 hb; replace BK407 := zb BK407 hb; replace BK408 := zb BK408 hb; replace BK409 := zb BK409 hb; replace BK410 := zb BK410 hb; replace HB := zs HB hb; (try clear hb); (try clear hb2); (try clear hk); (try clear hi)) | ((with_reducible refine gate_callee (f := 25) rfl ?_); refine goesL_ (some 29) rfl rfl Tryz.func25 (by kernel_rfl) rfl #[] rfl (by (try simp only [List.map_toArray, List.map_cons, List.map_nil]); first | done | rfl | (simp only [List.length_drop, List.length_take]; rfl)) ?_; (with_reducible refine (stencillaw02_live.calls k  t412 _ ?side1 A71.out).mono ?_); (case side1 => first | exact HLD | exact Laid.below HLD HB.out); rintro e w110 ⟨rfl, hb⟩; refine ⟨_, rfl, ?_⟩; replace BK394 := zb BK394 hb; replace BK395 := zb BK395 hb; replace BK406 := zb BK406 hb; replace BK407 := zb BK407 hb; replace BK408 := zb BK408 hb; replace BK409 := zb BK409 hb; replace BK410 := zb BK410 hb; replace HB := zs HB hb; (try clear hb); (try clear hb2); (try clear hk); (try clear hi)))
  go_ret
  exact ⟨by first | rfl | (simp [errW_none, errW_some] <;> rfl) | (simp [*, errW_none, errW_some] <;> rfl), by repeat (first | (with_reducible first | exact HB.out | apply below_alloc | apply pw_below_drewN | apply below_drew1 | refine below_set ?_ GE394.out | refine below_set ?_ GE395.out | refine below_set ?_ GE406.out | refine below_set ?_ GE407.out | refine below_set ?_ GE408.out | refine below_set ?_ GE409.out | refine below_set ?_ GE410.out) | exact HB.out)⟩

end Go.Proofs.YtfbmojnndbbojaaGreatDoor.Print

-- APART

-- THIN
