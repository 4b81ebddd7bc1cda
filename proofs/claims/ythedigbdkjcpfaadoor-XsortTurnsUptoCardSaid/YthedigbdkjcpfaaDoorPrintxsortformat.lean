-- Laid by xprint.py (ours), out of the seat's translation; Lean checks it.
import Derived.Test.YthedigbdkjcpfaaDoorPrint0
import Derived.Test.YthedigbdkjcpfaaDoorPrintlibrepeat
import Derived.Test.YthedigbdkjcpfaaDoorPrintxsortroman
import Derived.Test.YthedigbdkjcpfaaDoorPrintf13
import Derived.Test.YthedigbdkjcpfaaDoorPrintlibtolower
import Derived.Test.YthedigbdkjcpfaaDoorPrintlibitoa
import Derived.Test.YthedigbdkjcpfaaDoorPrintf33
import Derived.LoopTactic
import Derived.Lib.Hide
import Derived.ScopeJumps
import Derived.WalkMore
namespace Go.Proofs.YthedigbdkjcpfaaDoor.Print
open Go.RowKit Go.Proofs.YthedigbdkjcpfaaDoorW.PrintWords Go.Proofs.YthedigbdkjcpfaaDoorW.PrintLast Go.Proofs.YthedigbdkjcpfaaDoorW.PrintMore
attribute [local go_sem] max2_int min2_int max_two min_two max_three min_three max_four min_four   -- for this text's walks alone
open Go.Proofs.YthedigbdkjcpfaaDoor.Plain
set_option linter.unusedVariables false
set_option linter.unusedSimpArgs false

-- GIVEN stencil/xsort.Format rounds making
def xsort_Format.endF (a0 : Int) (s : ByteArray) : Option (ByteArray × Int) := if a0 < 1 then some ((⟨#[]⟩ : ByteArray), 2) else some (s, 0)
def xsort_Format.endU (a0 : Int) (s : ByteArray) : Option (ByteArray × Int) := if a0 < 1 then some ((⟨#[]⟩ : ByteArray), 2) else (strings_ToUpper.f s).bind fun u => some (u, 0)
def xsort_Format.f (k : Nat) (a0 : Int) (a1 : ByteArray) : Option (ByteArray × Int) :=
  if a1.toList = [97] then (xsort_Letters.f k a0).bind fun s => xsort_Format.endF a0 s
  else if a1.toList = [65] then (xsort_Letters.f k a0).bind fun s => xsort_Format.endU a0 s
  else if a1.toList = [105] then (xsort_Roman.f a0).bind fun q => (strings_ToLower.f q).bind fun s => if s.toList = [] then (strconv_Itoa.f a0).bind fun t => xsort_Format.endF a0 t else xsort_Format.endF a0 s
  else if a1.toList = [73] then (xsort_Roman.f a0).bind fun q => (strings_ToLower.f q).bind fun s => if s.toList = [] then (strconv_Itoa.f a0).bind fun t => xsort_Format.endU a0 t else xsort_Format.endU a0 s
  else (xsort_plain.f a1).bind fun p => if p = true then (strconv_Itoa.f a0).bind fun s => (strings_Repeat.f (⟨#[48]⟩ : ByteArray) (mx (wrap64 ((a1.size : Int) - (s.size : Int))) 0)).bind fun z => if z.size + s.size ≤ 9223372036854775807 then xsort_Format.endF a0 (z ++ s) else none
    else some ((⟨#[]⟩ : ByteArray), 18)
theorem xsort_Format.mono : ∀ a0 a1 k, LeO (xsort_Format.f k a0 a1) (xsort_Format.f (k + 1) a0 a1) := by
  intro a0 a1 k
  unfold xsort_Format.f
  repeat' first
      | (with_reducible exact xsort_Letters.mono _ _)
      | (with_reducible exact LeO.refl _)
      | (with_reducible refine LeO.ite ?_ ?_)
      | (with_reducible refine LeO.bind ?_ (fun _ => ?_))
set_option maxRecDepth 100000 in
set_option maxHeartbeats 4000000 in
theorem xsort_Format.w_a_low (k : Nat) (a0 : Int) (a1 : ByteArray) (s : ByteArray) (hL : xsort_Letters.f k a0 = some s) (e97 : (a1.toList == ([97] : List UInt8)) = true) (e65 : (a1.toList == ([65] : List UInt8)) = false) (e105 : (a1.toList == ([105] : List UInt8)) = false) (e73 : (a1.toList == ([73] : List UInt8)) = false) (hn : decide (a0 < 1) = true) (w : World) (HLD : Laid w) :
    Calls Tryd.prog 19 #[.int .i64 a0, .string a1] w fun e w' => e = .returned (.tuple #[.string (⟨#[]⟩ : ByteArray), .int .i64 2]) ∧ Below w.heap.size w w' := by
  have HX1 := Lib.hid hL; clear hL
  go_enter Tryd.func19, Tryd.ntmps19
  first | go_step3 | (go_wp2; go_step3)
  go_wp2_with (first
    | (go_at_call 13; (with_reducible refine (xsort_Letters.calls k a0 s _ HLD HX1.out).mono ?_); rintro e w1 ⟨rfl, hb1⟩; have HB1 := Lib.hid hb1.below; clear hb1))
  all_goals (first | (rw [Exit.noGoto_ret]; go_ret2; exact ⟨rfl, HB1.out⟩) | (go_ret2; exact ⟨rfl, HB1.out⟩))
set_option maxRecDepth 100000 in
set_option maxHeartbeats 4000000 in
theorem xsort_Format.w_a (k : Nat) (a0 : Int) (a1 : ByteArray) (s : ByteArray) (hL : xsort_Letters.f k a0 = some s) (e97 : (a1.toList == ([97] : List UInt8)) = true) (e65 : (a1.toList == ([65] : List UInt8)) = false) (e105 : (a1.toList == ([105] : List UInt8)) = false) (e73 : (a1.toList == ([73] : List UInt8)) = false) (hn : decide (a0 < 1) = false) (w : World) (HLD : Laid w) :
    Calls Tryd.prog 19 #[.int .i64 a0, .string a1] w fun e w' => e = .returned (.tuple #[.string s, .int .i64 0]) ∧ Below w.heap.size w w' := by
  have HX1 := Lib.hid hL; clear hL
  go_enter Tryd.func19, Tryd.ntmps19
  first | go_step3 | (go_wp2; go_step3)
  go_wp2_with (first
    | (go_at_call 13; (with_reducible refine (xsort_Letters.calls k a0 s _ HLD HX1.out).mono ?_); rintro e w1 ⟨rfl, hb1⟩; have HB1 := Lib.hid hb1.below; clear hb1))
  all_goals (first | (rw [Exit.noGoto_ret]; go_ret2; exact ⟨rfl, HB1.out⟩) | (go_ret2; exact ⟨rfl, HB1.out⟩))
set_option maxRecDepth 100000 in
set_option maxHeartbeats 4000000 in
theorem xsort_Format.w_A_low (k : Nat) (a0 : Int) (a1 : ByteArray) (s : ByteArray) (hL : xsort_Letters.f k a0 = some s) (e97 : (a1.toList == ([97] : List UInt8)) = false) (e65 : (a1.toList == ([65] : List UInt8)) = true) (e105 : (a1.toList == ([105] : List UInt8)) = false) (e73 : (a1.toList == ([73] : List UInt8)) = false) (hn : decide (a0 < 1) = true) (w : World) (HLD : Laid w) :
    Calls Tryd.prog 19 #[.int .i64 a0, .string a1] w fun e w' => e = .returned (.tuple #[.string (⟨#[]⟩ : ByteArray), .int .i64 2]) ∧ Below w.heap.size w w' := by
  have HX1 := Lib.hid hL; clear hL
  go_enter Tryd.func19, Tryd.ntmps19
  first | go_step3 | (go_wp2; go_step3)
  go_wp2_with (first
    | (go_at_call 13; (with_reducible refine (xsort_Letters.calls k a0 s _ HLD HX1.out).mono ?_); rintro e w1 ⟨rfl, hb1⟩; have HB1 := Lib.hid hb1.below; clear hb1))
  all_goals (first | (rw [Exit.noGoto_ret]; go_ret2; exact ⟨rfl, HB1.out⟩) | (go_ret2; exact ⟨rfl, HB1.out⟩))
set_option maxRecDepth 100000 in
set_option maxHeartbeats 4000000 in
theorem xsort_Format.w_A (k : Nat) (a0 : Int) (a1 : ByteArray) (s : ByteArray) (hL : xsort_Letters.f k a0 = some s) (e97 : (a1.toList == ([97] : List UInt8)) = false) (e65 : (a1.toList == ([65] : List UInt8)) = true) (e105 : (a1.toList == ([105] : List UInt8)) = false) (e73 : (a1.toList == ([73] : List UInt8)) = false) (hn : decide (a0 < 1) = false) (u : ByteArray) (hU : strings_ToUpper.f s = some u) (w : World) (HLD : Laid w) :
    Calls Tryd.prog 19 #[.int .i64 a0, .string a1] w fun e w' => e = .returned (.tuple #[.string u, .int .i64 0]) ∧ Below w.heap.size w w' := by
  have HX1 := Lib.hid hL; clear hL
  have HX9 := Lib.hid hU; clear hU
  go_enter Tryd.func19, Tryd.ntmps19
  first | go_step3 | (go_wp2; go_step3)
  go_wp2_with (first
    | (go_at_call 13; (with_reducible refine (xsort_Letters.calls k a0 s _ HLD HX1.out).mono ?_); rintro e w1 ⟨rfl, hb1⟩; have HB1 := Lib.hid hb1.below; clear hb1)
    | (go_at_call 34; (with_reducible refine (strings_ToUpper.calls s u _ (HLD.below HB1.out) HX9.out).mono ?_); rintro e w2 ⟨rfl, hb2⟩; have HB2 := Lib.hid hb2; clear hb2))
  all_goals (first | (rw [Exit.noGoto_ret]; go_ret2; exact ⟨rfl, HB1.out.then_ (HB2.out)⟩) | (go_ret2; exact ⟨rfl, HB1.out.then_ (HB2.out)⟩))
set_option maxRecDepth 100000 in
set_option maxHeartbeats 4000000 in
theorem xsort_Format.w_i_low (k : Nat) (a0 : Int) (a1 : ByteArray) (q s : ByteArray) (hR : xsort_Roman.f a0 = some q) (hT : strings_ToLower.f q = some s) (es : (s.toList == ([] : List UInt8)) = false) (e97 : (a1.toList == ([97] : List UInt8)) = false) (e65 : (a1.toList == ([65] : List UInt8)) = false) (e105 : (a1.toList == ([105] : List UInt8)) = true) (e73 : (a1.toList == ([73] : List UInt8)) = false) (hn : decide (a0 < 1) = true) (w : World) (HLD : Laid w) :
    Calls Tryd.prog 19 #[.int .i64 a0, .string a1] w fun e w' => e = .returned (.tuple #[.string (⟨#[]⟩ : ByteArray), .int .i64 2]) ∧ Below w.heap.size w w' := by
  have HX1 := Lib.hid hR; have HX2 := Lib.hid hT; clear hR hT
  go_enter Tryd.func19, Tryd.ntmps19
  first | go_step3 | (go_wp2; go_step3)
  go_wp2_with (first
    | (go_at_call 11; (with_reducible refine (xsort_Roman.calls a0 q _ HLD HX1.out).mono ?_); rintro e w1 ⟨rfl, hb1⟩; have HB1 := Lib.hid hb1; clear hb1)
    | (go_at_call 31; (with_reducible refine (strings_ToLower.calls q s _ (HLD.below HB1.out) HX2.out).mono ?_); rintro e w2 ⟨rfl, hb2⟩; have HB2 := Lib.hid hb2; clear hb2))
  all_goals (first | (rw [Exit.noGoto_ret]; go_ret2; exact ⟨rfl, HB1.out.then_ (HB2.out)⟩) | (go_ret2; exact ⟨rfl, HB1.out.then_ (HB2.out)⟩))
set_option maxRecDepth 100000 in
set_option maxHeartbeats 4000000 in
theorem xsort_Format.w_i (k : Nat) (a0 : Int) (a1 : ByteArray) (q s : ByteArray) (hR : xsort_Roman.f a0 = some q) (hT : strings_ToLower.f q = some s) (es : (s.toList == ([] : List UInt8)) = false) (e97 : (a1.toList == ([97] : List UInt8)) = false) (e65 : (a1.toList == ([65] : List UInt8)) = false) (e105 : (a1.toList == ([105] : List UInt8)) = true) (e73 : (a1.toList == ([73] : List UInt8)) = false) (hn : decide (a0 < 1) = false) (w : World) (HLD : Laid w) :
    Calls Tryd.prog 19 #[.int .i64 a0, .string a1] w fun e w' => e = .returned (.tuple #[.string s, .int .i64 0]) ∧ Below w.heap.size w w' := by
  have HX1 := Lib.hid hR; have HX2 := Lib.hid hT; clear hR hT
  go_enter Tryd.func19, Tryd.ntmps19
  first | go_step3 | (go_wp2; go_step3)
  go_wp2_with (first
    | (go_at_call 11; (with_reducible refine (xsort_Roman.calls a0 q _ HLD HX1.out).mono ?_); rintro e w1 ⟨rfl, hb1⟩; have HB1 := Lib.hid hb1; clear hb1)
    | (go_at_call 31; (with_reducible refine (strings_ToLower.calls q s _ (HLD.below HB1.out) HX2.out).mono ?_); rintro e w2 ⟨rfl, hb2⟩; have HB2 := Lib.hid hb2; clear hb2))
  all_goals (first | (rw [Exit.noGoto_ret]; go_ret2; exact ⟨rfl, HB1.out.then_ (HB2.out)⟩) | (go_ret2; exact ⟨rfl, HB1.out.then_ (HB2.out)⟩))
set_option maxRecDepth 100000 in
set_option maxHeartbeats 4000000 in
theorem xsort_Format.w_i_e_low (k : Nat) (a0 : Int) (a1 : ByteArray) (q s : ByteArray) (hR : xsort_Roman.f a0 = some q) (hT : strings_ToLower.f q = some s) (t : ByteArray) (es : (s.toList == ([] : List UInt8)) = true) (hI : strconv_Itoa.f a0 = some t) (e97 : (a1.toList == ([97] : List UInt8)) = false) (e65 : (a1.toList == ([65] : List UInt8)) = false) (e105 : (a1.toList == ([105] : List UInt8)) = true) (e73 : (a1.toList == ([73] : List UInt8)) = false) (hn : decide (a0 < 1) = true) (w : World) (HLD : Laid w) :
    Calls Tryd.prog 19 #[.int .i64 a0, .string a1] w fun e w' => e = .returned (.tuple #[.string (⟨#[]⟩ : ByteArray), .int .i64 2]) ∧ Below w.heap.size w w' := by
  have HX1 := Lib.hid hR; have HX2 := Lib.hid hT; clear hR hT
  have HX3 := Lib.hid hI; clear hI
  go_enter Tryd.func19, Tryd.ntmps19
  first | go_step3 | (go_wp2; go_step3)
  go_wp2_with (first
    | (go_at_call 11; (with_reducible refine (xsort_Roman.calls a0 q _ HLD HX1.out).mono ?_); rintro e w1 ⟨rfl, hb1⟩; have HB1 := Lib.hid hb1; clear hb1)
    | (go_at_call 31; (with_reducible refine (strings_ToLower.calls q s _ (HLD.below HB1.out) HX2.out).mono ?_); rintro e w2 ⟨rfl, hb2⟩; have HB2 := Lib.hid hb2; clear hb2)
    | (go_at_call 32; (with_reducible refine (strconv_Itoa.calls a0 t _ ((HLD.below HB1.out).below HB2.out) HX3.out).mono ?_); rintro e w3 ⟨rfl, hb3⟩; have HB3 := Lib.hid hb3; clear hb3))
  all_goals (first | (rw [Exit.noGoto_ret]; go_ret2; exact ⟨rfl, HB1.out.then_ (HB2.out.then_ (HB3.out))⟩) | (go_ret2; exact ⟨rfl, HB1.out.then_ (HB2.out.then_ (HB3.out))⟩))
set_option maxRecDepth 100000 in
set_option maxHeartbeats 4000000 in
theorem xsort_Format.w_i_e (k : Nat) (a0 : Int) (a1 : ByteArray) (q s : ByteArray) (hR : xsort_Roman.f a0 = some q) (hT : strings_ToLower.f q = some s) (t : ByteArray) (es : (s.toList == ([] : List UInt8)) = true) (hI : strconv_Itoa.f a0 = some t) (e97 : (a1.toList == ([97] : List UInt8)) = false) (e65 : (a1.toList == ([65] : List UInt8)) = false) (e105 : (a1.toList == ([105] : List UInt8)) = true) (e73 : (a1.toList == ([73] : List UInt8)) = false) (hn : decide (a0 < 1) = false) (w : World) (HLD : Laid w) :
    Calls Tryd.prog 19 #[.int .i64 a0, .string a1] w fun e w' => e = .returned (.tuple #[.string t, .int .i64 0]) ∧ Below w.heap.size w w' := by
  have HX1 := Lib.hid hR; have HX2 := Lib.hid hT; clear hR hT
  have HX3 := Lib.hid hI; clear hI
  go_enter Tryd.func19, Tryd.ntmps19
  first | go_step3 | (go_wp2; go_step3)
  go_wp2_with (first
    | (go_at_call 11; (with_reducible refine (xsort_Roman.calls a0 q _ HLD HX1.out).mono ?_); rintro e w1 ⟨rfl, hb1⟩; have HB1 := Lib.hid hb1; clear hb1)
    | (go_at_call 31; (with_reducible refine (strings_ToLower.calls q s _ (HLD.below HB1.out) HX2.out).mono ?_); rintro e w2 ⟨rfl, hb2⟩; have HB2 := Lib.hid hb2; clear hb2)
    | (go_at_call 32; (with_reducible refine (strconv_Itoa.calls a0 t _ ((HLD.below HB1.out).below HB2.out) HX3.out).mono ?_); rintro e w3 ⟨rfl, hb3⟩; have HB3 := Lib.hid hb3; clear hb3))
  all_goals (first | (rw [Exit.noGoto_ret]; go_ret2; exact ⟨rfl, HB1.out.then_ (HB2.out.then_ (HB3.out))⟩) | (go_ret2; exact ⟨rfl, HB1.out.then_ (HB2.out.then_ (HB3.out))⟩))
set_option maxRecDepth 100000 in
set_option maxHeartbeats 4000000 in
theorem xsort_Format.w_I_low (k : Nat) (a0 : Int) (a1 : ByteArray) (q s : ByteArray) (hR : xsort_Roman.f a0 = some q) (hT : strings_ToLower.f q = some s) (es : (s.toList == ([] : List UInt8)) = false) (e97 : (a1.toList == ([97] : List UInt8)) = false) (e65 : (a1.toList == ([65] : List UInt8)) = false) (e105 : (a1.toList == ([105] : List UInt8)) = false) (e73 : (a1.toList == ([73] : List UInt8)) = true) (hn : decide (a0 < 1) = true) (w : World) (HLD : Laid w) :
    Calls Tryd.prog 19 #[.int .i64 a0, .string a1] w fun e w' => e = .returned (.tuple #[.string (⟨#[]⟩ : ByteArray), .int .i64 2]) ∧ Below w.heap.size w w' := by
  have HX1 := Lib.hid hR; have HX2 := Lib.hid hT; clear hR hT
  go_enter Tryd.func19, Tryd.ntmps19
  first | go_step3 | (go_wp2; go_step3)
  go_wp2_with (first
    | (go_at_call 11; (with_reducible refine (xsort_Roman.calls a0 q _ HLD HX1.out).mono ?_); rintro e w1 ⟨rfl, hb1⟩; have HB1 := Lib.hid hb1; clear hb1)
    | (go_at_call 31; (with_reducible refine (strings_ToLower.calls q s _ (HLD.below HB1.out) HX2.out).mono ?_); rintro e w2 ⟨rfl, hb2⟩; have HB2 := Lib.hid hb2; clear hb2))
  all_goals (first | (rw [Exit.noGoto_ret]; go_ret2; exact ⟨rfl, HB1.out.then_ (HB2.out)⟩) | (go_ret2; exact ⟨rfl, HB1.out.then_ (HB2.out)⟩))
set_option maxRecDepth 100000 in
set_option maxHeartbeats 4000000 in
theorem xsort_Format.w_I (k : Nat) (a0 : Int) (a1 : ByteArray) (q s : ByteArray) (hR : xsort_Roman.f a0 = some q) (hT : strings_ToLower.f q = some s) (es : (s.toList == ([] : List UInt8)) = false) (e97 : (a1.toList == ([97] : List UInt8)) = false) (e65 : (a1.toList == ([65] : List UInt8)) = false) (e105 : (a1.toList == ([105] : List UInt8)) = false) (e73 : (a1.toList == ([73] : List UInt8)) = true) (hn : decide (a0 < 1) = false) (u : ByteArray) (hU : strings_ToUpper.f s = some u) (w : World) (HLD : Laid w) :
    Calls Tryd.prog 19 #[.int .i64 a0, .string a1] w fun e w' => e = .returned (.tuple #[.string u, .int .i64 0]) ∧ Below w.heap.size w w' := by
  have HX1 := Lib.hid hR; have HX2 := Lib.hid hT; clear hR hT
  have HX9 := Lib.hid hU; clear hU
  go_enter Tryd.func19, Tryd.ntmps19
  first | go_step3 | (go_wp2; go_step3)
  go_wp2_with (first
    | (go_at_call 11; (with_reducible refine (xsort_Roman.calls a0 q _ HLD HX1.out).mono ?_); rintro e w1 ⟨rfl, hb1⟩; have HB1 := Lib.hid hb1; clear hb1)
    | (go_at_call 31; (with_reducible refine (strings_ToLower.calls q s _ (HLD.below HB1.out) HX2.out).mono ?_); rintro e w2 ⟨rfl, hb2⟩; have HB2 := Lib.hid hb2; clear hb2)
    | (go_at_call 34; (with_reducible refine (strings_ToUpper.calls s u _ ((HLD.below HB1.out).below HB2.out) HX9.out).mono ?_); rintro e w3 ⟨rfl, hb3⟩; have HB3 := Lib.hid hb3; clear hb3))
  all_goals (first | (rw [Exit.noGoto_ret]; go_ret2; exact ⟨rfl, HB1.out.then_ (HB2.out.then_ (HB3.out))⟩) | (go_ret2; exact ⟨rfl, HB1.out.then_ (HB2.out.then_ (HB3.out))⟩))
set_option maxRecDepth 100000 in
set_option maxHeartbeats 4000000 in
theorem xsort_Format.w_I_e_low (k : Nat) (a0 : Int) (a1 : ByteArray) (q s : ByteArray) (hR : xsort_Roman.f a0 = some q) (hT : strings_ToLower.f q = some s) (t : ByteArray) (es : (s.toList == ([] : List UInt8)) = true) (hI : strconv_Itoa.f a0 = some t) (e97 : (a1.toList == ([97] : List UInt8)) = false) (e65 : (a1.toList == ([65] : List UInt8)) = false) (e105 : (a1.toList == ([105] : List UInt8)) = false) (e73 : (a1.toList == ([73] : List UInt8)) = true) (hn : decide (a0 < 1) = true) (w : World) (HLD : Laid w) :
    Calls Tryd.prog 19 #[.int .i64 a0, .string a1] w fun e w' => e = .returned (.tuple #[.string (⟨#[]⟩ : ByteArray), .int .i64 2]) ∧ Below w.heap.size w w' := by
  have HX1 := Lib.hid hR; have HX2 := Lib.hid hT; clear hR hT
  have HX3 := Lib.hid hI; clear hI
  go_enter Tryd.func19, Tryd.ntmps19
  first | go_step3 | (go_wp2; go_step3)
  go_wp2_with (first
    | (go_at_call 11; (with_reducible refine (xsort_Roman.calls a0 q _ HLD HX1.out).mono ?_); rintro e w1 ⟨rfl, hb1⟩; have HB1 := Lib.hid hb1; clear hb1)
    | (go_at_call 31; (with_reducible refine (strings_ToLower.calls q s _ (HLD.below HB1.out) HX2.out).mono ?_); rintro e w2 ⟨rfl, hb2⟩; have HB2 := Lib.hid hb2; clear hb2)
    | (go_at_call 32; (with_reducible refine (strconv_Itoa.calls a0 t _ ((HLD.below HB1.out).below HB2.out) HX3.out).mono ?_); rintro e w3 ⟨rfl, hb3⟩; have HB3 := Lib.hid hb3; clear hb3))
  all_goals (first | (rw [Exit.noGoto_ret]; go_ret2; exact ⟨rfl, HB1.out.then_ (HB2.out.then_ (HB3.out))⟩) | (go_ret2; exact ⟨rfl, HB1.out.then_ (HB2.out.then_ (HB3.out))⟩))
set_option maxRecDepth 100000 in
set_option maxHeartbeats 4000000 in
theorem xsort_Format.w_I_e (k : Nat) (a0 : Int) (a1 : ByteArray) (q s : ByteArray) (hR : xsort_Roman.f a0 = some q) (hT : strings_ToLower.f q = some s) (t : ByteArray) (es : (s.toList == ([] : List UInt8)) = true) (hI : strconv_Itoa.f a0 = some t) (e97 : (a1.toList == ([97] : List UInt8)) = false) (e65 : (a1.toList == ([65] : List UInt8)) = false) (e105 : (a1.toList == ([105] : List UInt8)) = false) (e73 : (a1.toList == ([73] : List UInt8)) = true) (hn : decide (a0 < 1) = false) (u : ByteArray) (hU : strings_ToUpper.f t = some u) (w : World) (HLD : Laid w) :
    Calls Tryd.prog 19 #[.int .i64 a0, .string a1] w fun e w' => e = .returned (.tuple #[.string u, .int .i64 0]) ∧ Below w.heap.size w w' := by
  have HX1 := Lib.hid hR; have HX2 := Lib.hid hT; clear hR hT
  have HX3 := Lib.hid hI; clear hI
  have HX9 := Lib.hid hU; clear hU
  go_enter Tryd.func19, Tryd.ntmps19
  first | go_step3 | (go_wp2; go_step3)
  go_wp2_with (first
    | (go_at_call 11; (with_reducible refine (xsort_Roman.calls a0 q _ HLD HX1.out).mono ?_); rintro e w1 ⟨rfl, hb1⟩; have HB1 := Lib.hid hb1; clear hb1)
    | (go_at_call 31; (with_reducible refine (strings_ToLower.calls q s _ (HLD.below HB1.out) HX2.out).mono ?_); rintro e w2 ⟨rfl, hb2⟩; have HB2 := Lib.hid hb2; clear hb2)
    | (go_at_call 32; (with_reducible refine (strconv_Itoa.calls a0 t _ ((HLD.below HB1.out).below HB2.out) HX3.out).mono ?_); rintro e w3 ⟨rfl, hb3⟩; have HB3 := Lib.hid hb3; clear hb3)
    | (go_at_call 34; (with_reducible refine (strings_ToUpper.calls t u _ (((HLD.below HB1.out).below HB2.out).below HB3.out) HX9.out).mono ?_); rintro e w4 ⟨rfl, hb4⟩; have HB4 := Lib.hid hb4; clear hb4))
  all_goals (first | (rw [Exit.noGoto_ret]; go_ret2; exact ⟨rfl, HB1.out.then_ (HB2.out.then_ (HB3.out.then_ (HB4.out)))⟩) | (go_ret2; exact ⟨rfl, HB1.out.then_ (HB2.out.then_ (HB3.out.then_ (HB4.out)))⟩))
set_option maxRecDepth 100000 in
set_option maxHeartbeats 4000000 in
theorem xsort_Format.w_plain_low (a0 : Int) (a1 s z : ByteArray) (hp : xsort_plain.f a1 = some true) (hI : strconv_Itoa.f a0 = some s) (hZ : strings_Repeat.f (⟨#[48]⟩ : ByteArray) (mx (wrap64 ((a1.size : Int) - (s.size : Int))) 0) = some z) (hz : z.size + s.size ≤ 9223372036854775807) (e97 : (a1.toList == ([97] : List UInt8)) = false) (e65 : (a1.toList == ([65] : List UInt8)) = false) (e105 : (a1.toList == ([105] : List UInt8)) = false) (e73 : (a1.toList == ([73] : List UInt8)) = false) (hn : decide (a0 < 1) = true) (w : World) (HLD : Laid w) :
    Calls Tryd.prog 19 #[.int .i64 a0, .string a1] w fun e w' => e = .returned (.tuple #[.string (⟨#[]⟩ : ByteArray), .int .i64 2]) ∧ Below w.heap.size w w' := by
  have HX1 := Lib.hid hp; have HX2 := Lib.hid hI; have HX3 := Lib.hid hZ; clear hp hI hZ
  go_enter Tryd.func19, Tryd.ntmps19
  first | go_step3 | (go_wp2; go_step3)
  go_wp2_with (first
    | (go_at_call 33; (with_reducible refine (xsort_plain.calls a1 true _ HLD HX1.out).mono ?_); rintro e w1 ⟨rfl, hb1⟩; have HB1 := Lib.hid hb1; clear hb1)
    | (go_at_call 32; (with_reducible refine (strconv_Itoa.calls a0 s _ (HLD.below HB1.out) HX2.out).mono ?_); rintro e w2 ⟨rfl, hb2⟩; have HB2 := Lib.hid hb2; clear hb2)
    | (go_at_call 23; (refine (strings_Repeat.calls _ _ z _ ((HLD.below HB1.out).below HB2.out) HX3.out).mono ?_); rintro e w3 ⟨rfl, hb3⟩; have HB3 := Lib.hid hb3; clear hb3))
  all_goals (first | (rw [Exit.noGoto_ret]; go_ret2; exact ⟨rfl, HB1.out.then_ (HB2.out.then_ (HB3.out))⟩) | (go_ret2; exact ⟨rfl, HB1.out.then_ (HB2.out.then_ (HB3.out))⟩))
set_option maxRecDepth 100000 in
set_option maxHeartbeats 4000000 in
theorem xsort_Format.w_plain (a0 : Int) (a1 s z : ByteArray) (hp : xsort_plain.f a1 = some true) (hI : strconv_Itoa.f a0 = some s) (hZ : strings_Repeat.f (⟨#[48]⟩ : ByteArray) (mx (wrap64 ((a1.size : Int) - (s.size : Int))) 0) = some z) (hz : z.size + s.size ≤ 9223372036854775807) (e97 : (a1.toList == ([97] : List UInt8)) = false) (e65 : (a1.toList == ([65] : List UInt8)) = false) (e105 : (a1.toList == ([105] : List UInt8)) = false) (e73 : (a1.toList == ([73] : List UInt8)) = false) (hn : decide (a0 < 1) = false) (w : World) (HLD : Laid w) :
    Calls Tryd.prog 19 #[.int .i64 a0, .string a1] w fun e w' => e = .returned (.tuple #[.string (z ++ s), .int .i64 0]) ∧ Below w.heap.size w w' := by
  have HX1 := Lib.hid hp; have HX2 := Lib.hid hI; have HX3 := Lib.hid hZ; clear hp hI hZ
  go_enter Tryd.func19, Tryd.ntmps19
  first | go_step3 | (go_wp2; go_step3)
  go_wp2_with (first
    | (go_at_call 33; (with_reducible refine (xsort_plain.calls a1 true _ HLD HX1.out).mono ?_); rintro e w1 ⟨rfl, hb1⟩; have HB1 := Lib.hid hb1; clear hb1)
    | (go_at_call 32; (with_reducible refine (strconv_Itoa.calls a0 s _ (HLD.below HB1.out) HX2.out).mono ?_); rintro e w2 ⟨rfl, hb2⟩; have HB2 := Lib.hid hb2; clear hb2)
    | (go_at_call 23; (refine (strings_Repeat.calls _ _ z _ ((HLD.below HB1.out).below HB2.out) HX3.out).mono ?_); rintro e w3 ⟨rfl, hb3⟩; have HB3 := Lib.hid hb3; clear hb3))
  all_goals (first | (rw [Exit.noGoto_ret]; go_ret2; exact ⟨rfl, HB1.out.then_ (HB2.out.then_ (HB3.out))⟩) | (go_ret2; exact ⟨rfl, HB1.out.then_ (HB2.out.then_ (HB3.out))⟩))
set_option maxRecDepth 100000 in
set_option maxHeartbeats 4000000 in
theorem xsort_Format.w_none (a0 : Int) (a1 : ByteArray) (hp : xsort_plain.f a1 = some false) (e97 : (a1.toList == ([97] : List UInt8)) = false) (e65 : (a1.toList == ([65] : List UInt8)) = false) (e105 : (a1.toList == ([105] : List UInt8)) = false) (e73 : (a1.toList == ([73] : List UInt8)) = false) (w : World) (HLD : Laid w) :
    Calls Tryd.prog 19 #[.int .i64 a0, .string a1] w fun e w' => e = .returned (.tuple #[.string (⟨#[]⟩ : ByteArray), .int .i64 18]) ∧ Below w.heap.size w w' := by
  have HX1 := Lib.hid hp; clear hp
  go_enter Tryd.func19, Tryd.ntmps19
  try go_wp2
  refine wp_scope_jumps 0 (fun a' w' => Below w.heap.size w w' ∧ ∃ (u0 u1 u2 u3 u4 u5 u6 u7 u8 u9 u10 u11 u12 u13 u14 u15 u16 u17 u18 u19 u20 u21 u22 u23 u24 u25 u26 u27 u28 u29 u30 u31 u32 u33 u34 u35 u36 u37 u38 u39 u40 u41 u42 u43 u44 u45 u46 u47 : Value), a' = { tmps := #[u0, u1, u2, u3, u4, u5, u6, u7, u8, u9, u10, u11, u12, u13, u14, u15, u16, u17, u18, u19, u20, u21, u22, u23, u24, u25, u26, u27, u28, u29, u30, u31, u32, u33, u34, u35, u36, u37, u38, u39, u40, u41, u42, u43, u44, u45, u46, u47], defers := [] }) (fun _ _ => 0) rfl ?_ ?_
  · go_wp2_with (first
      | (go_at_call 33; (with_reducible refine (xsort_plain.calls a1 false _ HLD HX1.out).mono ?_); rintro e w1 ⟨rfl, hb1⟩; have HB1 := Lib.hid hb1; clear hb1))
    all_goals (first | (go_step3; exact ⟨rfl, HB1.out, _, _, _, _, _, _, _, _, _, _, _, _, _, _, _, _, _, _, _, _, _, _, _, _, _, _, _, _, _, _, _, _, _, _, _, _, _, _, _, _, _, _, _, _, _, _, _, _, rfl⟩) | exact ⟨rfl, HB1.out, _, _, _, _, _, _, _, _, _, _, _, _, _, _, _, _, _, _, _, _, _, _, _, _, _, _, _, _, _, _, _, _, _, _, _, _, _, _, _, _, _, _, _, _, _, _, _, _, rfl⟩)
  · rintro a' w' ⟨hb, u0, u1, u2, u3, u4, u5, u6, u7, u8, u9, u10, u11, u12, u13, u14, u15, u16, u17, u18, u19, u20, u21, u22, u23, u24, u25, u26, u27, u28, u29, u30, u31, u32, u33, u34, u35, u36, u37, u38, u39, u40, u41, u42, u43, u44, u45, u46, u47, rfl⟩
    have HB := Lib.hid hb; clear hb
    go_wp2
    try simp only [Exit.jump]
    go_ret2
    exact ⟨rfl, HB.out⟩
theorem eqT {l m : List UInt8} (h : l = m) : (l == m) = true := beq_iff_eq.mpr h
theorem eqF {l m : List UInt8} (h : ¬ l = m) : (l == m) = false := beq_eq_false_iff_ne.mpr h
theorem xsort_Format.calls (k : Nat) (a0 : Int) (a1 : ByteArray) (r1 : ByteArray) (r2 : Int) (w : World) (HLD : Laid w) (h : xsort_Format.f k a0 a1 = some (r1, r2)) :
    Calls Tryd.prog 19 #[.int .i64 a0, .string a1] w fun e w' => e = .returned (.tuple #[.string r1, .int .i64 r2]) ∧ Below w.heap.size w w' := by
  unfold xsort_Format.f at h
  have ne : ∀ {x y : UInt8}, a1.toList = [x] → x ≠ y → ¬ a1.toList = [y] := fun h1 h2 h3 => h2 (by rw [h1] at h3; exact (List.cons.inj h3).1)
  by_cases hl : a0 < 1
  · have hn := decide_eq_true hl
    unfold xsort_Format.endF xsort_Format.endU at h
    simp only [if_pos hl] at h
    split at h
    · rename_i h97
      obtain ⟨s, hs, h⟩ := Option.bind_eq_some_iff.1 h
      obtain ⟨rfl, rfl⟩ := Prod.mk.inj (Option.some.inj h)
      exact xsort_Format.w_a_low k a0 a1 s hs (eqT h97) (eqF (ne h97 (by decide))) (eqF (ne h97 (by decide))) (eqF (ne h97 (by decide))) hn w HLD
    · rename_i h97
      split at h
      · rename_i h65
        obtain ⟨s, hs, h⟩ := Option.bind_eq_some_iff.1 h
        obtain ⟨rfl, rfl⟩ := Prod.mk.inj (Option.some.inj h)
        exact xsort_Format.w_A_low k a0 a1 s hs (eqF h97) (eqT h65) (eqF (ne h65 (by decide))) (eqF (ne h65 (by decide))) hn w HLD
      · rename_i h65
        split at h
        · rename_i h105
          obtain ⟨q, hq, h⟩ := Option.bind_eq_some_iff.1 h
          obtain ⟨s, hs, h⟩ := Option.bind_eq_some_iff.1 h
          split at h
          · rename_i he
            obtain ⟨t, ht, h⟩ := Option.bind_eq_some_iff.1 h
            obtain ⟨rfl, rfl⟩ := Prod.mk.inj (Option.some.inj h)
            exact xsort_Format.w_i_e_low k a0 a1 q s hq hs t (eqT he) ht (eqF h97) (eqF h65) (eqT h105) (eqF (ne h105 (by decide))) hn w HLD
          · rename_i he
            obtain ⟨rfl, rfl⟩ := Prod.mk.inj (Option.some.inj h)
            exact xsort_Format.w_i_low k a0 a1 q s hq hs (eqF he) (eqF h97) (eqF h65) (eqT h105) (eqF (ne h105 (by decide))) hn w HLD
        · rename_i h105
          split at h
          · rename_i h73
            obtain ⟨q, hq, h⟩ := Option.bind_eq_some_iff.1 h
            obtain ⟨s, hs, h⟩ := Option.bind_eq_some_iff.1 h
            split at h
            · rename_i he
              obtain ⟨t, ht, h⟩ := Option.bind_eq_some_iff.1 h
              obtain ⟨rfl, rfl⟩ := Prod.mk.inj (Option.some.inj h)
              exact xsort_Format.w_I_e_low k a0 a1 q s hq hs t (eqT he) ht (eqF h97) (eqF h65) (eqF h105) (eqT h73) hn w HLD
            · rename_i he
              obtain ⟨rfl, rfl⟩ := Prod.mk.inj (Option.some.inj h)
              exact xsort_Format.w_I_low k a0 a1 q s hq hs (eqF he) (eqF h97) (eqF h65) (eqF h105) (eqT h73) hn w HLD
          · rename_i h73
            obtain ⟨p, hp, h⟩ := Option.bind_eq_some_iff.1 h
            split at h
            · rename_i hpt
              subst hpt
              obtain ⟨s, hs, h⟩ := Option.bind_eq_some_iff.1 h
              obtain ⟨z, hz, h⟩ := Option.bind_eq_some_iff.1 h
              split at h
              · rename_i hzz
                obtain ⟨rfl, rfl⟩ := Prod.mk.inj (Option.some.inj h)
                exact xsort_Format.w_plain_low a0 a1 s z hp hs hz hzz (eqF h97) (eqF h65) (eqF h105) (eqF h73) hn w HLD
              · cases h
            · rename_i hpf
              obtain rfl : p = false := by simpa using hpf
              obtain ⟨rfl, rfl⟩ := Prod.mk.inj (Option.some.inj h)
              exact xsort_Format.w_none a0 a1 hp (eqF h97) (eqF h65) (eqF h105) (eqF h73) w HLD
  · have hn := decide_eq_false hl
    unfold xsort_Format.endF xsort_Format.endU at h
    simp only [if_neg hl] at h
    split at h
    · rename_i h97
      obtain ⟨s, hs, h⟩ := Option.bind_eq_some_iff.1 h
      obtain ⟨rfl, rfl⟩ := Prod.mk.inj (Option.some.inj h)
      exact xsort_Format.w_a k a0 a1 _ hs (eqT h97) (eqF (ne h97 (by decide))) (eqF (ne h97 (by decide))) (eqF (ne h97 (by decide))) hn w HLD
    · rename_i h97
      split at h
      · rename_i h65
        obtain ⟨s, hs, h⟩ := Option.bind_eq_some_iff.1 h
        obtain ⟨u, hu, h⟩ := Option.bind_eq_some_iff.1 h
        obtain ⟨rfl, rfl⟩ := Prod.mk.inj (Option.some.inj h)
        exact xsort_Format.w_A k a0 a1 s hs (eqF h97) (eqT h65) (eqF (ne h65 (by decide))) (eqF (ne h65 (by decide))) hn _ hu w HLD
      · rename_i h65
        split at h
        · rename_i h105
          obtain ⟨q, hq, h⟩ := Option.bind_eq_some_iff.1 h
          obtain ⟨s, hs, h⟩ := Option.bind_eq_some_iff.1 h
          split at h
          · rename_i he
            obtain ⟨t, ht, h⟩ := Option.bind_eq_some_iff.1 h
            obtain ⟨rfl, rfl⟩ := Prod.mk.inj (Option.some.inj h)
            exact xsort_Format.w_i_e k a0 a1 q s hq hs _ (eqT he) ht (eqF h97) (eqF h65) (eqT h105) (eqF (ne h105 (by decide))) hn w HLD
          · rename_i he
            obtain ⟨rfl, rfl⟩ := Prod.mk.inj (Option.some.inj h)
            exact xsort_Format.w_i k a0 a1 q _ hq hs (eqF he) (eqF h97) (eqF h65) (eqT h105) (eqF (ne h105 (by decide))) hn w HLD
        · rename_i h105
          split at h
          · rename_i h73
            obtain ⟨q, hq, h⟩ := Option.bind_eq_some_iff.1 h
            obtain ⟨s, hs, h⟩ := Option.bind_eq_some_iff.1 h
            split at h
            · rename_i he
              obtain ⟨t, ht, h⟩ := Option.bind_eq_some_iff.1 h
              obtain ⟨u, hu, h⟩ := Option.bind_eq_some_iff.1 h
              obtain ⟨rfl, rfl⟩ := Prod.mk.inj (Option.some.inj h)
              exact xsort_Format.w_I_e k a0 a1 q s hq hs t (eqT he) ht (eqF h97) (eqF h65) (eqF h105) (eqT h73) hn _ hu w HLD
            · rename_i he
              obtain ⟨u, hu, h⟩ := Option.bind_eq_some_iff.1 h
              obtain ⟨rfl, rfl⟩ := Prod.mk.inj (Option.some.inj h)
              exact xsort_Format.w_I k a0 a1 q s hq hs (eqF he) (eqF h97) (eqF h65) (eqF h105) (eqT h73) hn _ hu w HLD
          · rename_i h73
            obtain ⟨p, hp, h⟩ := Option.bind_eq_some_iff.1 h
            split at h
            · rename_i hpt
              subst hpt
              obtain ⟨s, hs, h⟩ := Option.bind_eq_some_iff.1 h
              obtain ⟨z, hz, h⟩ := Option.bind_eq_some_iff.1 h
              split at h
              · rename_i hzz
                obtain ⟨rfl, rfl⟩ := Prod.mk.inj (Option.some.inj h)
                exact xsort_Format.w_plain a0 a1 s z hp hs hz hzz (eqF h97) (eqF h65) (eqF h105) (eqF h73) hn w HLD
              · cases h
            · rename_i hpf
              obtain rfl : p = false := by simpa using hpf
              obtain ⟨rfl, rfl⟩ := Prod.mk.inj (Option.some.inj h)
              exact xsort_Format.w_none a0 a1 hp (eqF h97) (eqF h65) (eqF h105) (eqF h73) w HLD

end Go.Proofs.YthedigbdkjcpfaaDoor.Print
