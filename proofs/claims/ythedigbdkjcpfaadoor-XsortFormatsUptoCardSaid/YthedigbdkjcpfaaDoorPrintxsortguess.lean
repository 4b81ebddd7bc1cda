-- Laid by xprint.py (ours), out of the seat's translation; Lean checks it.
import Derived.Test.YthedigbdkjcpfaaDoorPrint0
import Derived.Test.YthedigbdkjcpfaaDoorPrintlibtolower
import Derived.Test.YthedigbdkjcpfaaDoorPrintlibtrimright
import Derived.Test.YthedigbdkjcpfaaDoorShelf
import Derived.LoopTactic
import Derived.Lib.Hide
import Derived.Lib.ConvBytes
import Derived.Lib.ParseIntBMem
import Derived.Lib.Walk
import Derived.Laws.Strings3
import Derived.Laws.Closers25
import Derived.Laws.Closers25b
import Derived.WalkKit
import Derived.BigCall
import Derived.BigGuard
import Derived.Lib.IfaceNeq
import Derived.Lib.AtoiErrMem
import Derived.MapKept
import Derived.ChangeMaps4
import Derived.Carry
namespace Go.Proofs.YthedigbdkjcpfaaDoor.Print
open Go.RowKit Go.Proofs.YthedigbdkjcpfaaDoorW.PrintWords Go.Proofs.YthedigbdkjcpfaaDoorW.PrintLast Go.Proofs.YthedigbdkjcpfaaDoorW.PrintMore
attribute [local go_sem] max2_int min2_int max_two min_two max_three min_three max_four min_four   -- for this text's walks alone
open Go.Proofs.YthedigbdkjcpfaaDoor.Plain
set_option linter.unusedVariables false
set_option linter.unusedSimpArgs false

-- GIVEN stencil/xsort.guess making
/-- what digits say -/
def digN (a : Nat) (l : List UInt8) : Nat := l.foldl (fun a c => a * 10 + (c.toNat - 48)) a
theorem digN_cons (a : Nat) (c : UInt8) (l : List UInt8) : digN a (c :: l) = digN (a * 10 + (c.toNat - 48)) l := by unfold digN; exact List.foldl_cons
theorem digN_ge : ∀ (l : List UInt8) (a : Nat), a ≤ digN a l
  | [], a => Nat.le_refl _
  | c :: l, a => by rw [digN_cons]; exact Nat.le_trans (by omega) (digN_ge l _)
def allDig (l : List UInt8) : Bool := l.all fun c => decide (48 ≤ c.toNat ∧ c.toNat ≤ 57)
theorem digN_le (l : List UInt8) : ∀ a b : Nat, a ≤ b → digN a l ≤ digN b l := by
  induction l with
  | nil => intro a b h; exact h
  | cons c l ih => intro a b h; rw [digN_cons, digN_cons]; exact ih _ _ (by omega)
/-- what ParseUint(.., 10, 62) hands back of digits -/
def uEnd (v : Nat) : Value := if v ≤ 4611686018427387903 then .tuple #[.int .u64 (v : Int), .nilIface] else .tuple #[.int .u64 4611686018427387903, .iface 129 (.int .i64 1)]
set_option maxHeartbeats 8000000 in
set_option maxRecDepth 100000 in
theorem pu62 (t : ByteArray) (hne : t.size ≠ 0) (hmax : t.size ≤ 1000000000) (hdig : ∀ c ∈ t.data.toList, 48 ≤ c.toNat ∧ c.toNat ≤ 57) (w : World) :
    Calls Tryd.prog 100 #[.string t, .int .i64 10, .int .i64 62] w fun e w' => e = .returned (uEnd (digN 0 t.data.toList)) ∧ w' = Lib.bytesWorld w 5 t := by
  have hemp : t.toList.isEmpty = false := by
    rw [← decide_eq_emptyBytes]
    exact decide_eq_false (fun h => hne (by rw [h]; rfl))
  have hcv := Lib.run_convert_string_bytes (P := Tryd.prog) w 9 52 5 t (u := .string) Tryd.underlying9 Tryd.underlying52 Tryd.underlying5
  have hB : ∀ j, j < t.size → (Lib.bytesWorld w 5 t).cell? ⟨w.heap.size, j, none⟩ = some (.int .u8 (t.data.toList.getD j 0).toNat) := fun j hj => Lib.bytesWorld_cell w 5 t j hj
  obtain ⟨W1, hW1⟩ : ∃ W1, W1 = Lib.bytesWorld w 5 t := ⟨_, rfl⟩
  rw [← hW1] at hcv hB ⊢
  clear hW1
  obtain ⟨bs, hL⟩ : ∃ bs, bs = t.data.toList := ⟨_, rfl⟩
  have hLn : bs.length = t.size := by rw [hL, Lib.size_eq]
  rw [← hL] at hB hdig ⊢
  clear hL
  obtain ⟨E, hE⟩ : ∃ E, uEnd (digN 0 bs) = E := ⟨_, rfl⟩
  rw [hE]
  have HE := Lib.hid hE
  have HB := Lib.hid hB
  have HD := Lib.hid hdig
  clear hB hdig hE
  have hmv : IntKind.u64.wrap (IntKind.u64.wrap 4611686018427387904 - 1) = 4611686018427387903 := by
    rw [IntKind.wrap_u64, IntKind.wrap_u64]
    decide
  have hbig : ∀ v : Nat, 4611686018427387903 < v → uEnd v = .tuple #[.int .u64 4611686018427387903, .iface 129 (.int .i64 1)] := fun v h => by unfold uEnd; rw [if_neg (by omega)]
  have HBIG := Lib.hid hbig
  clear hbig
  go_enter Tryd.func100, Tryd.ntmps100
  go_wp2
  go_loop [12, 13, 101] (fun vu vn vi => ∃ (k : Nat) (a : Int), vu = .bool false ∧ vn = .int .u64 a ∧ vi = .int .i64 (k : Int) ∧ k ≤ t.size ∧ Hid (∃ acc : Nat, a = (acc : Int) ∧ acc ≤ 4611686018427387903 ∧ digN 0 bs = digN acc (bs.drop k)))
    (fun _ _ vi => t.size - (intOf vi).toNat)
  case atStart => exact ⟨0, 0, rfl, rfl, rfl, by omega, Lib.hid ⟨0, rfl, by omega, rfl⟩⟩
  case round =>
    obtain ⟨k, a, rfl, rfl, rfl, hk, hh⟩ := hrel
    obtain ⟨acc, ha, hacc, hdec⟩ := hh.out
    clear hh
    by_cases hkn : k < t.size
    · have hc := HB.out k hkn
      have hdrop : bs.drop k = bs[k]'(by omega) :: bs.drop (k + 1) := List.drop_eq_getElem_cons (by omega)
      have hget : bs.getD k 0 = bs[k]'(by omega) := by simp [List.getD, List.getElem?_eq_getElem (show k < bs.length by omega)]
      have hcd := HD.out (bs[k]'(by omega)) (List.getElem_mem _)
      rw [hdrop, digN_cons] at hdec
      rw [hget] at hc
      generalize bs[k]'(by omega) = c at hc hdec hcd
      have hge := digN_ge (bs.drop (k + 1)) (acc * 10 + (c.toNat - 48))
      have hc256 : c.toNat < 256 := c.toNat_lt
      obtain ⟨hd0, hd1⟩ := hcd
      have a0 : 0 ≤ a := by omega
      have a1 : a ≤ 4611686018427387903 := by omega
      clear hdrop hget
      by_cases hcut : 1844674407370955162 ≤ acc
      · have icut : 1844674407370955162 ≤ a := by omega
        have hend := HBIG.out (digN 0 bs) (by rw [hdec]; omega)
        have HEND := Lib.hid hend
        clear hge hdec ha hacc hcut hend
        go_wp2
        go_ret2
        exact ⟨by rw [← HE.out, HEND.out]; rfl, rfl⟩
      · by_cases hov : 18446744073709551616 ≤ acc * 10 + (c.toNat - 48)
        · have icut : a < 1844674407370955162 := by omega
          have iov : 18446744073709551616 ≤ a * 10 + ((c.toNat : Int) - 48) := by omega
          have hwr : IntKind.u64.wrap (a * 10 + ((c.toNat : Int) - 48)) = a * 10 + ((c.toNat : Int) - 48) - 18446744073709551616 := by
            rw [IntKind.wrap_u64]
            omega
          have hend := HBIG.out (digN 0 bs) (by rw [hdec]; omega)
          have HEND := Lib.hid hend
          clear hge hdec ha hacc hcut hend hov
          go_wp2
          go_ret2
          exact ⟨by rw [← HE.out, HEND.out]; rfl, rfl⟩
        · by_cases hm : 4611686018427387903 < acc * 10 + (c.toNat - 48)
          · have icut : a < 1844674407370955162 := by omega
            have iov : a * 10 + ((c.toNat : Int) - 48) < 18446744073709551616 := by omega
            have iom : 4611686018427387903 < a * 10 + ((c.toNat : Int) - 48) := by omega
            have hend := HBIG.out (digN 0 bs) (by rw [hdec]; omega)
            have HEND := Lib.hid hend
            clear hge hdec ha hacc hcut hend hov hm
            go_wp2
            go_ret2
            exact ⟨by rw [← HE.out, HEND.out]; rfl, rfl⟩
          · have icut : a < 1844674407370955162 := by omega
            have iov : a * 10 + ((c.toNat : Int) - 48) ≤ 4611686018427387903 := by omega
            have HN : Hid (∃ acc : Nat, a * 10 + ((c.toNat : Int) - 48) = (acc : Int) ∧ acc ≤ 4611686018427387903 ∧ digN 0 bs = digN acc (bs.drop (k + 1))) := Lib.hid ⟨_, by omega, by omega, hdec⟩
            clear hge hdec ha hacc hcut hov hm
            go_wp2
            refine ⟨⟨k + 1, a * 10 + ((c.toNat : Int) - 48), rfl, (by first | rfl | (congr 1; omega)), (by first | rfl | (congr 1; omega)), by omega, HN⟩, by simp [intOf]; omega⟩
    · have hkk : k = t.size := by omega
      subst hkk
      rw [List.drop_eq_nil_of_le (by omega)] at hdec
      have hdec2 : digN 0 bs = acc := hdec
      have hend : uEnd (digN 0 bs) = .tuple #[.int .u64 (acc : Int), .nilIface] := by rw [hdec2]; unfold uEnd; rw [if_pos hacc]
      have HEND := Lib.hid hend
      subst ha
      clear hdec hdec2 hend
      have a0 : (0 : Int) ≤ acc := by omega
      go_wp2
      go_ret2
      exact ⟨by rw [← HE.out, HEND.out]; rfl, rfl⟩
theorem first_dig (t : ByteArray) (hpos : 0 < t.size) (hdig : ∀ c ∈ t.data.toList, 48 ≤ c.toNat ∧ c.toNat ≤ 57) : (((t[0]'hpos).toNat : Int) == 43) = false ∧ (((t[0]'hpos).toNat : Int) == 45) = false := by
  have hc := hdig (t[0]'hpos) (by
    have : t[0]'hpos = t.data[0]'hpos := rfl
    rw [this]
    exact Array.getElem_mem_toList (h := hpos))
  exact ⟨beq_eq_false_iff_ne.2 (by omega), beq_eq_false_iff_ne.2 (by omega)⟩
/-- what ParseInt(.., 10, 62) hands back of digits (none: the empty text) -/
def iEnd (l : List UInt8) : Value := if l = [] then .tuple #[.int .i64 0, .iface 129 (.int .i64 2)] else if digN 0 l < 2305843009213693952 then .tuple #[.int .i64 (digN 0 l : Nat), .nilIface] else .tuple #[.int .i64 2305843009213693951, .iface 129 (.int .i64 1)]
set_option maxHeartbeats 8000000 in
set_option maxRecDepth 100000 in
theorem pi62 (t : ByteArray) (hmax : t.size ≤ 1000000000) (hdig : ∀ c ∈ t.data.toList, 48 ≤ c.toNat ∧ c.toNat ≤ 57) (w : World) :
    Calls Tryd.prog 81 #[.string t, .int .i64 10, .int .i64 62] w fun e w' => e = .returned (iEnd t.data.toList) ∧ Below w.heap.size w w' := by
  have hq1 : ∀ W, (binOp .neq 73 (.iface 129 (.int .i64 1)) (.iface 129 (.int .i64 1))).run Tryd.prog W = .ok (.bool false) W := fun W => Lib.run_neq_iface_int W 1 1 Tryd.underlying73 (by kernel_rfl) Tryd.underlying129
  by_cases hne : t.size = 0
  · have ht : t = ⟨#[]⟩ := by
      apply ByteArray.ext
      exact Array.eq_empty_of_size_eq_zero hne
    subst ht
    have he : iEnd (⟨#[]⟩ : ByteArray).data.toList = .tuple #[.int .i64 0, .iface 129 (.int .i64 2)] := rfl
    rw [he]
    clear hmax hdig hne
    go_enter Tryd.func81, Tryd.ntmps81
    go_wp2
    go_ret2
    exact ⟨rfl, Below.refl _ _⟩
  · have hU := pu62 t hne hmax hdig w
    have hemp : t.toList.isEmpty = false := by
      rw [← decide_eq_emptyBytes]
      exact decide_eq_false (fun h => hne (by rw [h]; rfl))
    have hpos : 0 < t.size := by omega
    obtain ⟨h43, h45⟩ := first_dig t hpos hdig
    have hl : t.data.toList ≠ [] := fun h => hne (by rw [Lib.size_eq, h]; rfl)
    obtain ⟨E, hE⟩ : ∃ E, iEnd t.data.toList = E := ⟨_, rfl⟩
    rw [hE]
    unfold iEnd at hE
    rw [if_neg hl] at hE
    unfold uEnd at hU
    generalize digN 0 t.data.toList = d at hE hU
    obtain ⟨v, hv⟩ : ∃ v : Int, v = (d : Int) := ⟨_, rfl⟩
    have v0 : 0 ≤ v := by omega
    by_cases q1 : d ≤ 4611686018427387903
    · rw [if_pos q1] at hU
      rw [← hv] at hU hE
      have v1 : v ≤ 4611686018427387903 := by omega
      have HU := Lib.hid hU
      by_cases q2 : d < 2305843009213693952
      · rw [if_pos q2] at hE
        have v2 : v < 2305843009213693952 := by omega
        have HE := Lib.hid hE
        clear hv hU hE q1 q2 hdig hl
        go_enter Tryd.func81, Tryd.ntmps81
        go_wp2_with (go_at_call 100; (with_reducible refine HU.out.mono ?_); rintro e w1 ⟨rfl, rfl⟩)
        go_ret2
        exact ⟨by rw [← HE.out]; rfl, Lib.bytesWorld_below _ _ _⟩
      · rw [if_neg q2] at hE
        have v2 : 2305843009213693952 ≤ v := by omega
        have HE := Lib.hid hE
        clear hv hU hE q1 q2 hdig hl
        go_enter Tryd.func81, Tryd.ntmps81
        go_wp2_with (go_at_call 100; (with_reducible refine HU.out.mono ?_); rintro e w1 ⟨rfl, rfl⟩)
        go_ret2
        exact ⟨by rw [← HE.out]; rfl, Lib.bytesWorld_below _ _ _⟩
    · rw [if_neg q1] at hU
      rw [if_neg (show ¬ d < 2305843009213693952 by omega)] at hE
      have HU := Lib.hid hU
      have HE := Lib.hid hE
      clear hv hU hE q1 hdig hl v0
      go_enter Tryd.func81, Tryd.ntmps81
      go_wp2_with (go_at_call 100; (with_reducible refine HU.out.mono ?_); rintro e w1 ⟨rfl, rfl⟩)
      go_ret2
      exact ⟨by rw [← HE.out]; rfl, Lib.bytesWorld_below _ _ _⟩
set_option maxHeartbeats 8000000 in
set_option maxRecDepth 100000 in
theorem pi62_ok (t : ByteArray) (hmax : t.size ≤ 1000000000) (hdig : ∀ c ∈ t.data.toList, 48 ≤ c.toNat ∧ c.toNat ≤ 57) (hl : t.data.toList ≠ []) (hval : digN 0 t.data.toList < 2305843009213693952) (w : World) :
    Calls Tryd.prog 58 #[.string t, .int .i64 10, .int .i64 62] w fun e w' => e = .returned (.tuple #[.int .i64 (digN 0 t.data.toList : Nat), .nilIface]) ∧ Below w.heap.size w w' := by
  have hU := pi62 t hmax hdig w
  unfold iEnd at hU
  rw [if_neg hl, if_pos hval] at hU
  obtain ⟨v, hv⟩ : ∃ v : Int, v = (digN 0 t.data.toList : Nat) := ⟨_, rfl⟩
  rw [← hv] at hU ⊢
  have HU := Lib.hid hU
  clear hv hval hdig hU hl
  go_enter Tryd.func58, Tryd.ntmps58
  go_wp2_with (go_at_call 81; (with_reducible refine HU.out.mono ?_); rintro e w1 ⟨rfl, hb⟩; have HB := Lib.hid hb; clear hb)
  go_ret2
  exact ⟨rfl, HB.out⟩
set_option maxHeartbeats 8000000 in
set_option maxRecDepth 100000 in
theorem pi62_err (t : ByteArray) (hmax : t.size ≤ 1000000000) (hdig : ∀ c ∈ t.data.toList, 48 ≤ c.toNat ∧ c.toNat ≤ 57) (hbad : t.data.toList = [] ∨ ¬ digN 0 t.data.toList < 2305843009213693952) (w : World) (HL : Laid w) :
    Calls Tryd.prog 58 #[.string t, .int .i64 10, .int .i64 62] w fun e w' => (∃ v N, e = .returned (.tuple #[.int .i64 v, .iface 132 (.pointer (some ⟨N, 0, none⟩))])) ∧ Below w.heap.size w w' := by
  have hU := pi62 t hmax hdig w
  unfold iEnd at hU
  by_cases hl : t.data.toList = []
  · rw [if_pos hl] at hU
    have HU := Lib.hid hU
    clear hdig hU hl hbad
    go_enter Tryd.func58, Tryd.ntmps58
    go_wp2_with (first
      | (go_at_call 81; (with_reducible refine HU.out.mono ?_); rintro e w1 ⟨rfl, hb⟩; have HB := Lib.hid hb; clear hb; obtain ⟨tp, pv, hv⟩ := (HL.below HB.out).errS; have HV := Lib.hid hv; clear hv)
      | (go_at_call 82; (with_reducible refine (Tryd.strconv_toError_syntax ⟨#[80, 97, 114, 115, 101, 73, 110, 116]⟩ t 10 62 _ _ (by omega) HV.out (Or.inr ⟨tp, pv, rfl⟩)).mono ?_); rintro e w2 ⟨N, rfl, _, _, hb⟩; have HB2 := Lib.hid (HB.out.then_ hb); clear hb))
    go_ret2
    exact ⟨⟨_, _, rfl⟩, HB2.out⟩
  · rw [if_neg hl, if_neg (hbad.resolve_left hl)] at hU
    have HU := Lib.hid hU
    clear hdig hU hl hbad
    go_enter Tryd.func58, Tryd.ntmps58
    go_wp2_with (first
      | (go_at_call 81; (with_reducible refine HU.out.mono ?_); rintro e w1 ⟨rfl, hb⟩; have HB := Lib.hid hb; clear hb; obtain ⟨tp, pv, hv⟩ := (HL.below HB.out).errR; have HV := Lib.hid hv; clear hv)
      | (go_at_call 82; (with_reducible refine (Tryd.strconv_toError_range ⟨#[80, 97, 114, 115, 101, 73, 110, 116]⟩ t 10 62 _ _ (by omega) HV.out (Or.inr ⟨tp, pv, rfl⟩)).mono ?_); rintro e w2 ⟨N, rfl, _, _, hb⟩; have HB2 := Lib.hid (HB.out.then_ hb); clear hb))
    go_ret2
    exact ⟨⟨_, _, rfl⟩, HB2.out⟩
/-- letters, read back -/
def guessL : Nat → List UInt8 → Int → Int
  | 0, _, n => n
  | f + 1, l, n => if l = [] then n else if ((Lib.decodeL l).1 : Int) < 97 then 0 else if ((Lib.decodeL l).1 : Int) > 122 then 0 else if n > 1000000000 then 0 else guessL f (l.drop (Lib.decodeL l).2) (26 * n + (((Lib.decodeL l).1 : Int) - 97) + 1)
theorem guessL_nil (f : Nat) (n : Int) : guessL f [] n = n := by cases f <;> simp [guessL]
def rval (r : Nat) : Int := if r = 105 then 1 else if r = 118 then 5 else if r = 120 then 10 else if r = 108 then 50 else if r = 99 then 100 else if r = 100 then 500 else if r = 109 then 1000 else 0
/-- Roman ones, read back -/
def guessR : Nat → List UInt8 → Int → Int → Int
  | 0, _, n, _ => n
  | f + 1, l, n, last => if l = [] then n else if (if rval (Lib.decodeL l).1 > last then n + rval (Lib.decodeL l).1 - 2 * last else n + rval (Lib.decodeL l).1) > 10000 then 0
      else guessR f (l.drop (Lib.decodeL l).2) (if rval (Lib.decodeL l).1 > last then n + rval (Lib.decodeL l).1 - 2 * last else n + rval (Lib.decodeL l).1) (rval (Lib.decodeL l).1)
theorem guessR_nil (f : Nat) (n last : Int) : guessR f [] n last = n := by cases f <;> simp [guessR]
theorem rval_le (r : Nat) : 0 ≤ rval r ∧ rval r ≤ 1000 := by unfold rval; repeat' split <;> omega
set_option maxRecDepth 100000 in
set_option maxHeartbeats 8000000 in
theorem guess_letters (a0 a1 z s : ByteArray) (hs : s.size ≤ 1000000000) (hz : strings_Trim.f a0 (⟨#[48, 49, 50, 51, 52, 53, 54, 55, 56, 57]⟩ : ByteArray) = some z) (hl : strings_ToLower.f a0 = some s)
    (hno : (z.toList == ([] : List UInt8)) = false ∨ (a1.toList == ([97] : List UInt8)) = true ∨ (a1.toList == ([65] : List UInt8)) = true) (h105 : (a1.toList == ([105] : List UInt8)) = false) (h73 : (a1.toList == ([73] : List UInt8)) = false) (w : World) (HLD : Laid w) :
    Calls Tryd.prog 39 #[.string a0, .string a1] w fun e w' => e = .returned (.int .i64 (guessL s.size s.data.toList 0)) ∧ Below w.heap.size w w' := by
  obtain ⟨R, hR⟩ : ∃ R, guessL s.size s.data.toList 0 = R := ⟨_, rfl⟩
  rw [hR]
  have HR := Lib.hid hR
  have HZ := Lib.hid hz
  have HLW := Lib.hid hl
  clear hR hz hl
  have key : ∀ (b1 b2 b3 : Bool), (z.toList == ([] : List UInt8)) = b1 → (a1.toList == ([97] : List UInt8)) = b2 → (a1.toList == ([65] : List UInt8)) = b3 → (b1 = false ∨ b2 = true ∨ b3 = true) → Calls Tryd.prog 39 #[.string a0, .string a1] w fun e w' => e = .returned (.int .i64 R) ∧ Below w.heap.size w w' := by
    intro b1 b2 b3 e1 e2 e3 hb
    have n2 : (a1.toList != ([97] : List UInt8)) = !b2 := by rw [bne, e2]
    have n3 : (a1.toList != ([65] : List UInt8)) = !b3 := by rw [bne, e3]
    go_enter Tryd.func39, Tryd.ntmps39
    rcases b1 with _ | _
    rotate_left
    · rcases b2 with _ | _
      · rcases b3 with _ | _
        · simp at hb
        · clear hb
          go_wp2_with (first
            | (go_at_call 57; (with_reducible refine (strings_Trim.calls a0 _ z _ HLD HZ.out).mono ?_); rintro e w1 ⟨rfl, hb1⟩; have HB1 := Lib.hid hb1; clear hb1)
            | (go_at_call 31; (with_reducible refine (strings_ToLower.calls a0 s _ (HLD.below HB1.out) HLW.out).mono ?_); rintro e w2 ⟨rfl, hb2⟩; have HB2 := Lib.hid (HB1.out.then_ hb2); clear hb2))
          have hsz : w.heap.size ≤ w2.heap.size := HB2.out.size
          go_loopw [5] (fun v5 wr => ∃ (pos fuel : Nat) (n : Int), v5 = .int .i64 n ∧ wr.heap[w2.heap.size]? = some (.stringIter s pos) ∧ Hid (Below w.heap.size w wr) ∧ Hid (guessL fuel (s.data.toList.drop pos) n = R) ∧ s.size ≤ pos + fuel ∧ pos ≤ s.size ∧ Hid (0 ≤ n ∧ n ≤ 27000000026)) (fun _ wr => s.size - wr.iterPos w2.heap.size)
          case atStart => exact ⟨0, s.size, 0, rfl, World.iter_heap w2 s 0, Lib.hid (HB2.out.alloc hsz _), HR, by omega, Nat.zero_le _, Lib.hid (by omega)⟩
          case round =>
            clear HR HZ HLW e1 e2 e3 n2 n3 h105 h73
            obtain ⟨pos, fuel, n, rfl, hit, hbw, hacc, hfu, hple, hn⟩ := hrel
            by_cases hp : pos < s.size
            · obtain ⟨r, N, hd, hdl, hN, hr⟩ := decode_facts s pos
              obtain ⟨f, rfl⟩ : ∃ f, fuel = f + 1 := ⟨fuel - 1, by omega⟩
              have hacc' := hacc.out
              rw [guessL, if_neg (drop_ne s pos hp), hdl] at hacc'
              simp only [List.drop_drop] at hacc'
              have hin := decode_in s pos r N hp hdl
              have hnx : ∀ ty, (Instr.next (.pointer (some ⟨w2.heap.size, 0, none⟩)) true ty).run Tryd.prog wr = .ok (.tuple #[.bool true, .int .i64 pos, .int .i32 r]) (wr.iterAt w2.heap.size s (pos + N)) := fun ty => by
                have := Lib.run_next_any_at (P := Tryd.prog) wr w2.heap.size s pos ty hit hp
                rw [hd] at this
                exact this
              have hit2 := Lib.hid (Lib.iterAt_heap wr w2.heap.size s pos (pos + N) hit)
              have hbw2 := Lib.hid (Lib.below_iterAt hbw.out (k := w2.heap.size) hsz s (pos + N))
              have hm0 := Lib.hid (iter_pos hit)
              clear hacc hd hdl hit hbw
              by_cases q1 : (r : Int) < 97
              · rw [if_pos q1] at hacc'
                have f1 : decide ((r : Int) < 97) = true := decide_eq_true q1
                have HA := Lib.hid hacc'
                clear hacc' q1 hn
                go_wp2
                go_ret
                exact ⟨by rw [← HA.out]; rfl, hbw2.out⟩
              · rw [if_neg q1] at hacc'
                have f1 : decide ((r : Int) < 97) = false := decide_eq_false q1
                by_cases q2 : (r : Int) > 122
                · rw [if_pos q2] at hacc'
                  have f2 : decide ((r : Int) > 122) = true := decide_eq_true q2
                  have HA := Lib.hid hacc'
                  clear hacc' q1 q2 hn
                  go_wp2
                  go_ret
                  exact ⟨by rw [← HA.out]; rfl, hbw2.out⟩
                · rw [if_neg q2] at hacc'
                  have f2 : decide ((r : Int) > 122) = false := decide_eq_false q2
                  by_cases q3 : n > 1000000000
                  · rw [if_pos q3] at hacc'
                    have f3 : decide (n > 1000000000) = true := decide_eq_true q3
                    have HA := Lib.hid hacc'
                    clear hacc' q1 q2 q3 hn
                    go_wp2
                    go_ret
                    exact ⟨by rw [← HA.out]; rfl, hbw2.out⟩
                  · rw [if_neg q3] at hacc'
                    have f3 : decide (n > 1000000000) = false := decide_eq_false q3
                    have HA := Lib.hid hacc'
                    have hnn := hn.out
                    have HN2 := Lib.hid (show 0 ≤ 26 * n + ((r : Int) - 97) + 1 ∧ 26 * n + ((r : Int) - 97) + 1 ≤ 27000000026 by omega)
                    have z0 : 97 ≤ (r : Int) := by omega
                    have z1 : (r : Int) ≤ 122 := by omega
                    have z2 : 0 ≤ n := by omega
                    have z3 : n ≤ 1000000000 := by omega
                    clear hacc' q1 q2 q3 hn hnn
                    go_wp2
                    go_roundw
                    case rel => exact ⟨pos + N, f, 26 * n + ((r : Int) - 97) + 1, by first | rfl | (congr 1; simp only [wrap64, wrap32]; omega) | (congr 1; omega), hit2.out, hbw2, HA, by omega, hin, HN2⟩
                    case measure => rw [hm0.out, iter_pos hit2.out]; omega
            · have hnx : ∀ ty, (Instr.next (.pointer (some ⟨w2.heap.size, 0, none⟩)) true ty).run Tryd.prog wr = _ := fun ty => Lib.run_next_end_at wr w2.heap.size s pos ty hit hp
              have hfin : n = R := by
                have h := hacc.out
                rw [drop_nil s pos hp, guessL_nil] at h
                exact h
              subst hfin
              clear hacc hn hit
              go_wp2
              go_ret
              exact ⟨rfl, hbw.out⟩
      · clear hb
        go_wp2_with (first
          | (go_at_call 57; (with_reducible refine (strings_Trim.calls a0 _ z _ HLD HZ.out).mono ?_); rintro e w1 ⟨rfl, hb1⟩; have HB1 := Lib.hid hb1; clear hb1)
          | (go_at_call 31; (with_reducible refine (strings_ToLower.calls a0 s _ (HLD.below HB1.out) HLW.out).mono ?_); rintro e w2 ⟨rfl, hb2⟩; have HB2 := Lib.hid (HB1.out.then_ hb2); clear hb2))
        have hsz : w.heap.size ≤ w2.heap.size := HB2.out.size
        go_loopw [5] (fun v5 wr => ∃ (pos fuel : Nat) (n : Int), v5 = .int .i64 n ∧ wr.heap[w2.heap.size]? = some (.stringIter s pos) ∧ Hid (Below w.heap.size w wr) ∧ Hid (guessL fuel (s.data.toList.drop pos) n = R) ∧ s.size ≤ pos + fuel ∧ pos ≤ s.size ∧ Hid (0 ≤ n ∧ n ≤ 27000000026)) (fun _ wr => s.size - wr.iterPos w2.heap.size)
        case atStart => exact ⟨0, s.size, 0, rfl, World.iter_heap w2 s 0, Lib.hid (HB2.out.alloc hsz _), HR, by omega, Nat.zero_le _, Lib.hid (by omega)⟩
        case round =>
          clear HR HZ HLW e1 e2 e3 n2 n3 h105 h73
          obtain ⟨pos, fuel, n, rfl, hit, hbw, hacc, hfu, hple, hn⟩ := hrel
          by_cases hp : pos < s.size
          · obtain ⟨r, N, hd, hdl, hN, hr⟩ := decode_facts s pos
            obtain ⟨f, rfl⟩ : ∃ f, fuel = f + 1 := ⟨fuel - 1, by omega⟩
            have hacc' := hacc.out
            rw [guessL, if_neg (drop_ne s pos hp), hdl] at hacc'
            simp only [List.drop_drop] at hacc'
            have hin := decode_in s pos r N hp hdl
            have hnx : ∀ ty, (Instr.next (.pointer (some ⟨w2.heap.size, 0, none⟩)) true ty).run Tryd.prog wr = .ok (.tuple #[.bool true, .int .i64 pos, .int .i32 r]) (wr.iterAt w2.heap.size s (pos + N)) := fun ty => by
              have := Lib.run_next_any_at (P := Tryd.prog) wr w2.heap.size s pos ty hit hp
              rw [hd] at this
              exact this
            have hit2 := Lib.hid (Lib.iterAt_heap wr w2.heap.size s pos (pos + N) hit)
            have hbw2 := Lib.hid (Lib.below_iterAt hbw.out (k := w2.heap.size) hsz s (pos + N))
            have hm0 := Lib.hid (iter_pos hit)
            clear hacc hd hdl hit hbw
            by_cases q1 : (r : Int) < 97
            · rw [if_pos q1] at hacc'
              have f1 : decide ((r : Int) < 97) = true := decide_eq_true q1
              have HA := Lib.hid hacc'
              clear hacc' q1 hn
              go_wp2
              go_ret
              exact ⟨by rw [← HA.out]; rfl, hbw2.out⟩
            · rw [if_neg q1] at hacc'
              have f1 : decide ((r : Int) < 97) = false := decide_eq_false q1
              by_cases q2 : (r : Int) > 122
              · rw [if_pos q2] at hacc'
                have f2 : decide ((r : Int) > 122) = true := decide_eq_true q2
                have HA := Lib.hid hacc'
                clear hacc' q1 q2 hn
                go_wp2
                go_ret
                exact ⟨by rw [← HA.out]; rfl, hbw2.out⟩
              · rw [if_neg q2] at hacc'
                have f2 : decide ((r : Int) > 122) = false := decide_eq_false q2
                by_cases q3 : n > 1000000000
                · rw [if_pos q3] at hacc'
                  have f3 : decide (n > 1000000000) = true := decide_eq_true q3
                  have HA := Lib.hid hacc'
                  clear hacc' q1 q2 q3 hn
                  go_wp2
                  go_ret
                  exact ⟨by rw [← HA.out]; rfl, hbw2.out⟩
                · rw [if_neg q3] at hacc'
                  have f3 : decide (n > 1000000000) = false := decide_eq_false q3
                  have HA := Lib.hid hacc'
                  have hnn := hn.out
                  have HN2 := Lib.hid (show 0 ≤ 26 * n + ((r : Int) - 97) + 1 ∧ 26 * n + ((r : Int) - 97) + 1 ≤ 27000000026 by omega)
                  have z0 : 97 ≤ (r : Int) := by omega
                  have z1 : (r : Int) ≤ 122 := by omega
                  have z2 : 0 ≤ n := by omega
                  have z3 : n ≤ 1000000000 := by omega
                  clear hacc' q1 q2 q3 hn hnn
                  go_wp2
                  go_roundw
                  case rel => exact ⟨pos + N, f, 26 * n + ((r : Int) - 97) + 1, by first | rfl | (congr 1; simp only [wrap64, wrap32]; omega) | (congr 1; omega), hit2.out, hbw2, HA, by omega, hin, HN2⟩
                  case measure => rw [hm0.out, iter_pos hit2.out]; omega
          · have hnx : ∀ ty, (Instr.next (.pointer (some ⟨w2.heap.size, 0, none⟩)) true ty).run Tryd.prog wr = _ := fun ty => Lib.run_next_end_at wr w2.heap.size s pos ty hit hp
            have hfin : n = R := by
              have h := hacc.out
              rw [drop_nil s pos hp, guessL_nil] at h
              exact h
            subst hfin
            clear hacc hn hit
            go_wp2
            go_ret
            exact ⟨rfl, hbw.out⟩
    · clear hb
      go_wp2_with (first
        | (go_at_call 57; (with_reducible refine (strings_Trim.calls a0 _ z _ HLD HZ.out).mono ?_); rintro e w1 ⟨rfl, hb1⟩; have HB1 := Lib.hid hb1; clear hb1)
        | (go_at_call 31; (with_reducible refine (strings_ToLower.calls a0 s _ (HLD.below HB1.out) HLW.out).mono ?_); rintro e w2 ⟨rfl, hb2⟩; have HB2 := Lib.hid (HB1.out.then_ hb2); clear hb2))
      have hsz : w.heap.size ≤ w2.heap.size := HB2.out.size
      go_loopw [5] (fun v5 wr => ∃ (pos fuel : Nat) (n : Int), v5 = .int .i64 n ∧ wr.heap[w2.heap.size]? = some (.stringIter s pos) ∧ Hid (Below w.heap.size w wr) ∧ Hid (guessL fuel (s.data.toList.drop pos) n = R) ∧ s.size ≤ pos + fuel ∧ pos ≤ s.size ∧ Hid (0 ≤ n ∧ n ≤ 27000000026)) (fun _ wr => s.size - wr.iterPos w2.heap.size)
      case atStart => exact ⟨0, s.size, 0, rfl, World.iter_heap w2 s 0, Lib.hid (HB2.out.alloc hsz _), HR, by omega, Nat.zero_le _, Lib.hid (by omega)⟩
      case round =>
        clear HR HZ HLW e1 e2 e3 n2 n3 h105 h73
        obtain ⟨pos, fuel, n, rfl, hit, hbw, hacc, hfu, hple, hn⟩ := hrel
        by_cases hp : pos < s.size
        · obtain ⟨r, N, hd, hdl, hN, hr⟩ := decode_facts s pos
          obtain ⟨f, rfl⟩ : ∃ f, fuel = f + 1 := ⟨fuel - 1, by omega⟩
          have hacc' := hacc.out
          rw [guessL, if_neg (drop_ne s pos hp), hdl] at hacc'
          simp only [List.drop_drop] at hacc'
          have hin := decode_in s pos r N hp hdl
          have hnx : ∀ ty, (Instr.next (.pointer (some ⟨w2.heap.size, 0, none⟩)) true ty).run Tryd.prog wr = .ok (.tuple #[.bool true, .int .i64 pos, .int .i32 r]) (wr.iterAt w2.heap.size s (pos + N)) := fun ty => by
            have := Lib.run_next_any_at (P := Tryd.prog) wr w2.heap.size s pos ty hit hp
            rw [hd] at this
            exact this
          have hit2 := Lib.hid (Lib.iterAt_heap wr w2.heap.size s pos (pos + N) hit)
          have hbw2 := Lib.hid (Lib.below_iterAt hbw.out (k := w2.heap.size) hsz s (pos + N))
          have hm0 := Lib.hid (iter_pos hit)
          clear hacc hd hdl hit hbw
          by_cases q1 : (r : Int) < 97
          · rw [if_pos q1] at hacc'
            have f1 : decide ((r : Int) < 97) = true := decide_eq_true q1
            have HA := Lib.hid hacc'
            clear hacc' q1 hn
            go_wp2
            go_ret
            exact ⟨by rw [← HA.out]; rfl, hbw2.out⟩
          · rw [if_neg q1] at hacc'
            have f1 : decide ((r : Int) < 97) = false := decide_eq_false q1
            by_cases q2 : (r : Int) > 122
            · rw [if_pos q2] at hacc'
              have f2 : decide ((r : Int) > 122) = true := decide_eq_true q2
              have HA := Lib.hid hacc'
              clear hacc' q1 q2 hn
              go_wp2
              go_ret
              exact ⟨by rw [← HA.out]; rfl, hbw2.out⟩
            · rw [if_neg q2] at hacc'
              have f2 : decide ((r : Int) > 122) = false := decide_eq_false q2
              by_cases q3 : n > 1000000000
              · rw [if_pos q3] at hacc'
                have f3 : decide (n > 1000000000) = true := decide_eq_true q3
                have HA := Lib.hid hacc'
                clear hacc' q1 q2 q3 hn
                go_wp2
                go_ret
                exact ⟨by rw [← HA.out]; rfl, hbw2.out⟩
              · rw [if_neg q3] at hacc'
                have f3 : decide (n > 1000000000) = false := decide_eq_false q3
                have HA := Lib.hid hacc'
                have hnn := hn.out
                have HN2 := Lib.hid (show 0 ≤ 26 * n + ((r : Int) - 97) + 1 ∧ 26 * n + ((r : Int) - 97) + 1 ≤ 27000000026 by omega)
                have z0 : 97 ≤ (r : Int) := by omega
                have z1 : (r : Int) ≤ 122 := by omega
                have z2 : 0 ≤ n := by omega
                have z3 : n ≤ 1000000000 := by omega
                clear hacc' q1 q2 q3 hn hnn
                go_wp2
                go_roundw
                case rel => exact ⟨pos + N, f, 26 * n + ((r : Int) - 97) + 1, by first | rfl | (congr 1; simp only [wrap64, wrap32]; omega) | (congr 1; omega), hit2.out, hbw2, HA, by omega, hin, HN2⟩
                case measure => rw [hm0.out, iter_pos hit2.out]; omega
        · have hnx : ∀ ty, (Instr.next (.pointer (some ⟨w2.heap.size, 0, none⟩)) true ty).run Tryd.prog wr = _ := fun ty => Lib.run_next_end_at wr w2.heap.size s pos ty hit hp
          have hfin : n = R := by
            have h := hacc.out
            rw [drop_nil s pos hp, guessL_nil] at h
            exact h
          subst hfin
          clear hacc hn hit
          go_wp2
          go_ret
          exact ⟨rfl, hbw.out⟩
  exact key _ _ _ rfl rfl rfl hno
def dres (l : List UInt8) : Int := if l = [] then 0 else if digN 0 l < 2305843009213693952 then (digN 0 l : Nat) else 0
set_option maxRecDepth 100000 in
set_option maxHeartbeats 8000000 in
theorem guess_digits (a0 a1 z : ByteArray) (hz : strings_Trim.f a0 (⟨#[48, 49, 50, 51, 52, 53, 54, 55, 56, 57]⟩ : ByteArray) = some z) (e1 : (z.toList == ([] : List UInt8)) = true) (e2 : (a1.toList == ([97] : List UInt8)) = false) (e3 : (a1.toList == ([65] : List UInt8)) = false)
    (hmax : a0.size ≤ 1000000000) (hdig : ∀ c ∈ a0.data.toList, 48 ≤ c.toNat ∧ c.toNat ≤ 57) (w : World) (HLD : Laid w) :
    Calls Tryd.prog 39 #[.string a0, .string a1] w fun e w' => e = .returned (.int .i64 (dres a0.data.toList)) ∧ Below w.heap.size w w' := by
  have HZ := Lib.hid hz
  have n2 : (a1.toList != ([97] : List UInt8)) = true := by rw [bne, e2]; rfl
  have n3 : (a1.toList != ([65] : List UInt8)) = true := by rw [bne, e3]; rfl
  by_cases hb : a0.data.toList = [] ∨ ¬ digN 0 a0.data.toList < 2305843009213693952
  · have hr : dres a0.data.toList = 0 := by
      unfold dres
      rcases hb with h | h
      · rw [if_pos h]
      · rw [if_neg h, ite_self]
    have HP := Lib.hid fun (W : World) (hl : Laid W) => pi62_err a0 hmax hdig hb W hl
    rw [hr]
    clear hb hr hz hdig
    go_enter Tryd.func39, Tryd.ntmps39
    go_wp2_with (first
      | (go_at_call 57; (with_reducible refine (strings_Trim.calls a0 _ z _ HLD HZ.out).mono ?_); rintro e w1 ⟨rfl, hb1⟩; have HB1 := Lib.hid hb1; clear hb1)
      | (go_at_call 58; (with_reducible refine (HP.out _ (HLD.below HB1.out)).mono ?_); rintro e w2 ⟨⟨v, N, rfl⟩, hb2⟩; have HB2 := Lib.hid (HB1.out.then_ hb2); clear hb2))
    go_ret
    exact ⟨rfl, HB2.out⟩
  · have hl : a0.data.toList ≠ [] := fun h => hb (.inl h)
    have hv : digN 0 a0.data.toList < 2305843009213693952 := Decidable.byContradiction fun h => hb (.inr h)
    have hr : dres a0.data.toList = (digN 0 a0.data.toList : Nat) := by
      unfold dres
      rw [if_neg hl, if_pos hv]
    have HP0 := fun (W : World) => pi62_ok a0 hmax hdig hl hv W
    rw [hr]
    obtain ⟨v, hve⟩ : ∃ v : Int, v = (digN 0 a0.data.toList : Nat) := ⟨_, rfl⟩
    rw [← hve] at HP0 ⊢
    have HP := Lib.hid HP0
    clear hb hr hz hdig hl hv hve HP0
    go_enter Tryd.func39, Tryd.ntmps39
    go_wp2_with (first
      | (go_at_call 57; (with_reducible refine (strings_Trim.calls a0 _ z _ HLD HZ.out).mono ?_); rintro e w1 ⟨rfl, hb1⟩; have HB1 := Lib.hid hb1; clear hb1)
      | (go_at_call 58; (with_reducible refine (HP.out _).mono ?_); rintro e w2 ⟨rfl, hb2⟩; have HB2 := Lib.hid (HB1.out.then_ hb2); clear hb2))
    go_ret
    exact ⟨rfl, HB2.out⟩
/-- the map of Roman signs as it lies -/
def romL : List MapEntry := [⟨.int .i32 105, .int .i64 1, 0⟩, ⟨.int .i32 118, .int .i64 5, 1⟩, ⟨.int .i32 120, .int .i64 10, 2⟩, ⟨.int .i32 108, .int .i64 50, 3⟩, ⟨.int .i32 99, .int .i64 100, 4⟩, ⟨.int .i32 100, .int .i64 500, 5⟩, ⟨.int .i32 109, .int .i64 1000, 6⟩]
def rom (i : Nat) : Array MapEntry := (romL.take i).toArray
set_option maxRecDepth 100000 in
theorem rom_ins (W : World) (es : Array MapEntry) (c : Nat) (k v : Int) (h : Instr.findNow (.int .i32) (.int .i32 k) es.toList 0 = some none) :
    (Instr.mapUpdate 87 (.map (some W.heap.size)) (.int .i32 k) (.int .i64 v)).run Tryd.prog (W.alloc (.map es c)) = .ok () (W.alloc (.map (es.push ⟨.int .i32 k, .int .i64 v, c⟩) (c + 1))) := by
  have hb : (W.alloc (.map es c)).heap[W.heap.size]? = some (.map es c) := by
    show (W.heap.push _)[W.heap.size]? = _
    simp
  have hd := Tryd.underlying21
  have hk := MapKept.run_checkKey (P := Tryd.prog) (w := W.alloc (.map es c)) (kt := 21) (k := .int .i32 k) hd rfl false 9999
  have hf := MapKept.run_findKey (P := Tryd.prog) (w := W.alloc (.map es c)) (kt := 21) hd h
  have hw : ({ (W.alloc (.map es c)) with heap := (W.alloc (.map es c)).heap.setIfInBounds W.heap.size (.map (es.push ⟨.int .i32 k, .int .i64 v, c⟩) (c + 1)) } : World) = W.alloc (.map (es.push ⟨.int .i32 k, .int .i64 v, c⟩) (c + 1)) := by
    unfold World.alloc
    congr 1
    simp [Array.setIfInBounds, Array.set_push]
  simp [Instr.mapUpdate, run_underlying Tryd.underlying87, MapKept.run_getObj_map hb, hk, hf, MapKept.run_setObj_map _ hb, Result.andThen]
  first | exact hw | (rw [← hw])
theorem rom_find (r : Nat) : Instr.findNow (.int .i32) (.int .i32 (r : Int)) (rom 7).toList 0 = some (if r = 105 then some (0, .int .i64 1) else if r = 118 then some (1, .int .i64 5) else if r = 120 then some (2, .int .i64 10) else if r = 108 then some (3, .int .i64 50) else if r = 99 then some (4, .int .i64 100) else if r = 100 then some (5, .int .i64 500) else if r = 109 then some (6, .int .i64 1000) else none) := by
  have e : ∀ k : Nat, (((r : Int) == (k : Int)) = true) ↔ r = k := fun k => by rw [beq_iff_eq]; omega
  have key : ∀ (k v : Nat) (es : List MapEntry) (c i : Nat), Instr.findNow (.int .i32) (.int .i32 (r : Int)) (⟨.int .i32 (k : Int), .int .i64 (v : Int), c⟩ :: es) i = if r = k then some (some (i, .int .i64 (v : Int))) else Instr.findNow (.int .i32) (.int .i32 (r : Int)) es (i + 1) := by
    intro k v es c i
    rw [Instr.findNow]
    simp only [Instr.sameNow, if_true]
    by_cases h : r = k
    · rw [if_pos h, (e k).2 h]
    · rw [if_neg h, show ((r : Int) == (k : Int)) = false from Bool.eq_false_iff.2 (fun hh => h ((e k).1 hh))]
  have hl : (rom 7).toList = romL := rfl
  rw [hl]
  unfold romL
  have k1 : ∀ (es : List MapEntry) (c i : Nat), Instr.findNow (.int .i32) (.int .i32 (r : Int)) (⟨.int .i32 105, .int .i64 1, c⟩ :: es) i = if r = 105 then some (some (i, .int .i64 1)) else Instr.findNow (.int .i32) (.int .i32 (r : Int)) es (i + 1) := fun es c i => key 105 1 es c i
  have k2 : ∀ (es : List MapEntry) (c i : Nat), Instr.findNow (.int .i32) (.int .i32 (r : Int)) (⟨.int .i32 118, .int .i64 5, c⟩ :: es) i = if r = 118 then some (some (i, .int .i64 5)) else Instr.findNow (.int .i32) (.int .i32 (r : Int)) es (i + 1) := fun es c i => key 118 5 es c i
  have k3 : ∀ (es : List MapEntry) (c i : Nat), Instr.findNow (.int .i32) (.int .i32 (r : Int)) (⟨.int .i32 120, .int .i64 10, c⟩ :: es) i = if r = 120 then some (some (i, .int .i64 10)) else Instr.findNow (.int .i32) (.int .i32 (r : Int)) es (i + 1) := fun es c i => key 120 10 es c i
  have k4 : ∀ (es : List MapEntry) (c i : Nat), Instr.findNow (.int .i32) (.int .i32 (r : Int)) (⟨.int .i32 108, .int .i64 50, c⟩ :: es) i = if r = 108 then some (some (i, .int .i64 50)) else Instr.findNow (.int .i32) (.int .i32 (r : Int)) es (i + 1) := fun es c i => key 108 50 es c i
  have k5 : ∀ (es : List MapEntry) (c i : Nat), Instr.findNow (.int .i32) (.int .i32 (r : Int)) (⟨.int .i32 99, .int .i64 100, c⟩ :: es) i = if r = 99 then some (some (i, .int .i64 100)) else Instr.findNow (.int .i32) (.int .i32 (r : Int)) es (i + 1) := fun es c i => key 99 100 es c i
  have k6 : ∀ (es : List MapEntry) (c i : Nat), Instr.findNow (.int .i32) (.int .i32 (r : Int)) (⟨.int .i32 100, .int .i64 500, c⟩ :: es) i = if r = 100 then some (some (i, .int .i64 500)) else Instr.findNow (.int .i32) (.int .i32 (r : Int)) es (i + 1) := fun es c i => key 100 500 es c i
  have k7 : ∀ (es : List MapEntry) (c i : Nat), Instr.findNow (.int .i32) (.int .i32 (r : Int)) (⟨.int .i32 109, .int .i64 1000, c⟩ :: es) i = if r = 109 then some (some (i, .int .i64 1000)) else Instr.findNow (.int .i32) (.int .i32 (r : Int)) es (i + 1) := fun es c i => key 109 1000 es c i
  rw [k1, k2, k3, k4, k5, k6, k7]
  repeat' split
  all_goals first | rfl | (exfalso; omega)
theorem zero_int (W : World) : (zeroValue 3).run Tryd.prog W = .ok (.int .i64 0) W := by kernel_rfl
set_option maxRecDepth 100000 in
theorem rom_look (W : World) (g : Nat) (hb : W.heap[g]? = some (.map (rom 7) 7)) (r : Nat) :
    (Instr.lookup 87 (.map (some g)) (.int .i32 (r : Int)) false).run Tryd.prog W = .ok (.int .i64 (rval r)) W := by
  have hd := Tryd.underlying21
  have hk : ∀ b, (Instr.checkKey b 10000 21 (.int .i32 (r : Int))).run Tryd.prog W = .ok () W := fun b => MapKept.run_checkKey (P := Tryd.prog) (w := W) (kt := 21) (k := .int .i32 (r : Int)) hd rfl b 9999
  have hf := MapKept.run_findKey (P := Tryd.prog) (w := W) (kt := 21) hd (rom_find r)
  simp [Instr.lookup, run_underlying Tryd.underlying87, MapKept.run_getObj_map hb, hk, hf, Result.andThen]
  unfold rval
  repeat' split
  all_goals first | rfl | (simp_all; done) | (simp [zero_int, Result.andThen]; done) | omega
set_option maxRecDepth 100000 in
set_option maxHeartbeats 8000000 in
theorem guess_roman (a0 a1 z s : ByteArray) (b0 : Bool) (hs : s.size ≤ 1000000000) (hz : strings_Trim.f a0 (⟨#[48, 49, 50, 51, 52, 53, 54, 55, 56, 57]⟩ : ByteArray) = some z) (hl : strings_ToLower.f a0 = some s)
    (e1 : (z.toList == ([] : List UInt8)) = false) (e2 : (a1.toList == ([105] : List UInt8)) = b0) (e3 : b0 = false → (a1.toList == ([73] : List UInt8)) = true) (w : World) (HLD : Laid w) :
    Calls Tryd.prog 39 #[.string a0, .string a1] w fun e w' => e = .returned (.int .i64 (guessR s.size s.data.toList 0 0)) ∧ Below w.heap.size w w' := by
  obtain ⟨R, hR⟩ : ∃ R, guessR s.size s.data.toList 0 0 = R := ⟨_, rfl⟩
  rw [hR]
  have HR := Lib.hid hR
  have HZ := Lib.hid hz
  have HLW := Lib.hid hl
  have HI := True.intro
  have n2 := True.intro
  have n3 := True.intro
  clear hR hz hl
  have hmm := @run_makeMap Tryd.prog
  cases b0
  · have e3 := e3 rfl
    have hi0 : ∀ W : World, (Instr.mapUpdate 87 (.map (some W.heap.size)) (.int .i32 105) (.int .i64 1)).run Tryd.prog (W.alloc (.map #[] 0)) = .ok () (W.alloc (.map (rom 1) 1)) := fun W => rom_ins W #[] 0 105 1 rfl
    have hi1 : ∀ W : World, (Instr.mapUpdate 87 (.map (some W.heap.size)) (.int .i32 118) (.int .i64 5)).run Tryd.prog (W.alloc (.map (rom 1) 1)) = .ok () (W.alloc (.map (rom 2) 2)) := fun W => rom_ins W (rom 1) 1 118 5 rfl
    have hi2 : ∀ W : World, (Instr.mapUpdate 87 (.map (some W.heap.size)) (.int .i32 120) (.int .i64 10)).run Tryd.prog (W.alloc (.map (rom 2) 2)) = .ok () (W.alloc (.map (rom 3) 3)) := fun W => rom_ins W (rom 2) 2 120 10 rfl
    have hi3 : ∀ W : World, (Instr.mapUpdate 87 (.map (some W.heap.size)) (.int .i32 108) (.int .i64 50)).run Tryd.prog (W.alloc (.map (rom 3) 3)) = .ok () (W.alloc (.map (rom 4) 4)) := fun W => rom_ins W (rom 3) 3 108 50 rfl
    have hi4 : ∀ W : World, (Instr.mapUpdate 87 (.map (some W.heap.size)) (.int .i32 99) (.int .i64 100)).run Tryd.prog (W.alloc (.map (rom 4) 4)) = .ok () (W.alloc (.map (rom 5) 5)) := fun W => rom_ins W (rom 4) 4 99 100 rfl
    have hi5 : ∀ W : World, (Instr.mapUpdate 87 (.map (some W.heap.size)) (.int .i32 100) (.int .i64 500)).run Tryd.prog (W.alloc (.map (rom 5) 5)) = .ok () (W.alloc (.map (rom 6) 6)) := fun W => rom_ins W (rom 5) 5 100 500 rfl
    have hi6 : ∀ W : World, (Instr.mapUpdate 87 (.map (some W.heap.size)) (.int .i32 109) (.int .i64 1000)).run Tryd.prog (W.alloc (.map (rom 6) 6)) = .ok () (W.alloc (.map (rom 7) 7)) := fun W => rom_ins W (rom 6) 6 109 1000 rfl
    go_enter Tryd.func39, Tryd.ntmps39
    go_wp2_with (first
      | (go_at_call 57; (with_reducible refine (strings_Trim.calls a0 _ z _ HLD HZ.out).mono ?_); rintro e w1 ⟨rfl, hb1⟩; have HB1 := Lib.hid hb1; clear hb1)
      | (go_at_call 31; (with_reducible refine (strings_ToLower.calls a0 s _ (HLD.below HB1.out) HLW.out).mono ?_); rintro e w2 ⟨rfl, hb2⟩; have HB2 := Lib.hid (HB1.out.then_ hb2); clear hb2))
    have hsz : w.heap.size ≤ w2.heap.size := HB2.out.size
    have hne2 : w2.heap.size ≠ w2.heap.size + 1 := by omega
    go_loopw [5, 9] (fun v5 v9 wr => ∃ (pos fuel : Nat) (n last : Int), v5 = .int .i64 n ∧ v9 = .int .i64 last ∧ wr.heap[w2.heap.size + 1]? = some (.stringIter s pos) ∧ Hid (wr.heap[w2.heap.size]? = some (.map (rom 7) 7)) ∧ Hid (Below w.heap.size w wr) ∧ Hid (guessR fuel (s.data.toList.drop pos) n last = R) ∧ s.size ≤ pos + fuel ∧ pos ≤ s.size ∧ Hid (-(2000 * (pos : Int)) ≤ n ∧ n ≤ 10000 ∧ 0 ≤ last ∧ last ≤ 1000)) (fun _ _ wr => s.size - wr.iterPos (w2.heap.size + 1))
    case atStart =>
      refine ⟨0, s.size, 0, 0, rfl, rfl, ?_, ?_, ?_, HR, by omega, Nat.zero_le _, Lib.hid (by omega)⟩
      · have h3 := World.iter_heap (w2.alloc (.map (rom 7) 7)) s 0
        rw [World.size_alloc] at h3
        exact h3
      · refine Lib.hid ?_
        have h1 : (w2.alloc (.map (rom 7) 7)).heap[w2.heap.size]? = some (.map (rom 7) 7) := by
          show (w2.heap.push _)[w2.heap.size]? = _
          simp
        exact (((Below.refl (w2.alloc (.map (rom 7) 7)).heap.size (w2.alloc (.map (rom 7) 7))).alloc (Nat.le_refl _) _).block w2.heap.size (by rw [World.size_alloc]; omega)).trans h1
      · exact Lib.hid ((HB2.out.alloc hsz _).alloc (by rw [World.size_alloc]; omega) _)
    case round =>
      clear HR HZ HLW e1 e2 e3 n2 n3 HI
      obtain ⟨pos, fuel, n, last, rfl, rfl, hit, hmap, hbw, hacc, hfu, hple, hn⟩ := hrel
      by_cases hp : pos < s.size
      · obtain ⟨r, N, hd, hdl, hN, hr⟩ := decode_facts s pos
        obtain ⟨f, rfl⟩ : ∃ f, fuel = f + 1 := ⟨fuel - 1, by omega⟩
        have hacc' := hacc.out
        rw [guessR, if_neg (drop_ne s pos hp), hdl] at hacc'
        simp only [List.drop_drop] at hacc'
        have hin := decode_in s pos r N hp hdl
        have hnx : ∀ ty, (Instr.next (.pointer (some ⟨w2.heap.size + 1, 0, none⟩)) true ty).run Tryd.prog wr = .ok (.tuple #[.bool true, .int .i64 pos, .int .i32 r]) (wr.iterAt (w2.heap.size + 1) s (pos + N)) := fun ty => by
          have := Lib.run_next_any_at (P := Tryd.prog) wr (w2.heap.size + 1) s pos ty hit hp
          rw [hd] at this
          exact this
        have hit2 := Lib.hid (Lib.iterAt_heap wr (w2.heap.size + 1) s pos (pos + N) hit)
        have hmap2 := Lib.hid ((Lib.iterAt_other wr (w2.heap.size + 1) w2.heap.size s (pos + N) hne2).trans hmap.out)
        have hbw2 := Lib.hid (Lib.below_iterAt hbw.out (k := w2.heap.size + 1) (by omega) s (pos + N))
        have hlk := rom_look (wr.iterAt (w2.heap.size + 1) s (pos + N)) w2.heap.size hmap2.out r
        have hm0 := Lib.hid (iter_pos hit)
        have hv := rval_le r
        obtain ⟨v, hve⟩ : ∃ v, rval r = v := ⟨_, rfl⟩
        rw [hve] at hlk hv hacc'
        clear hacc hd hdl hit hbw hmap hve
        obtain ⟨b1, b2, b3, b4⟩ := hn.out
        have e1 : wrap64 (n + v) = n + v := by unfold wrap64; omega
        have e2 : wrap64 (2 * last) = 2 * last := by unfold wrap64; omega
        have e3 : wrap64 (n + v - 2 * last) = n + v - 2 * last := by unfold wrap64; omega
        by_cases q1 : v > last
        · rw [if_pos q1] at hacc'
          have f1 : decide (v > last) = true := decide_eq_true q1
          by_cases q2 : n + v - 2 * last > 10000
          · rw [if_pos q2] at hacc'
            have f2 : decide (n + v - 2 * last > 10000) = true := decide_eq_true q2
            have HA := Lib.hid hacc'
            clear hacc' q1 q2 hn b1 b2 b3 b4 hv
            go_wp2
            go_ret
            exact ⟨by rw [← HA.out]; rfl, hbw2.out⟩
          · rw [if_neg q2] at hacc'
            have f2 : decide (n + v - 2 * last > 10000) = false := decide_eq_false q2
            have HA := Lib.hid hacc'
            have HN2 := Lib.hid (show -(2000 * ((pos + N : Nat) : Int)) ≤ n + v - 2 * last ∧ n + v - 2 * last ≤ 10000 ∧ 0 ≤ v ∧ v ≤ 1000 by omega)
            clear hacc' q1 q2 hn b1 b2 b3 b4 hv
            go_wp2
            go_roundw
            case rel => exact ⟨pos + N, f, n + v - 2 * last, v, congrArg (Value.int .i64) e3, rfl, hit2.out, hmap2, hbw2, HA, by omega, hin, HN2⟩
            case measure => rw [hm0.out, iter_pos hit2.out]; omega
        · rw [if_neg q1] at hacc'
          have f1 : decide (v > last) = false := decide_eq_false q1
          by_cases q2 : n + v > 10000
          · rw [if_pos q2] at hacc'
            have f2 : decide (n + v > 10000) = true := decide_eq_true q2
            have HA := Lib.hid hacc'
            clear hacc' q1 q2 hn b1 b2 b3 b4 hv
            go_wp2
            go_ret
            exact ⟨by rw [← HA.out]; rfl, hbw2.out⟩
          · rw [if_neg q2] at hacc'
            have f2 : decide (n + v > 10000) = false := decide_eq_false q2
            have HA := Lib.hid hacc'
            have HN2 := Lib.hid (show -(2000 * ((pos + N : Nat) : Int)) ≤ n + v ∧ n + v ≤ 10000 ∧ 0 ≤ v ∧ v ≤ 1000 by omega)
            clear hacc' q1 q2 hn b1 b2 b3 b4 hv
            go_wp2
            go_roundw
            case rel => exact ⟨pos + N, f, n + v, v, congrArg (Value.int .i64) e1, rfl, hit2.out, hmap2, hbw2, HA, by omega, hin, HN2⟩
            case measure => rw [hm0.out, iter_pos hit2.out]; omega
      · have hnx : ∀ ty, (Instr.next (.pointer (some ⟨w2.heap.size + 1, 0, none⟩)) true ty).run Tryd.prog wr = _ := fun ty => Lib.run_next_end_at wr (w2.heap.size + 1) s pos ty hit hp
        have hfin : n = R := by
          have h := hacc.out
          rw [drop_nil s pos hp, guessR_nil] at h
          exact h
        subst hfin
        clear hacc hn hit
        go_wp2
        go_ret
        exact ⟨rfl, hbw.out⟩
  · clear e3
    have e3 := True.intro
    have hi0 : ∀ W : World, (Instr.mapUpdate 87 (.map (some W.heap.size)) (.int .i32 105) (.int .i64 1)).run Tryd.prog (W.alloc (.map #[] 0)) = .ok () (W.alloc (.map (rom 1) 1)) := fun W => rom_ins W #[] 0 105 1 rfl
    have hi1 : ∀ W : World, (Instr.mapUpdate 87 (.map (some W.heap.size)) (.int .i32 118) (.int .i64 5)).run Tryd.prog (W.alloc (.map (rom 1) 1)) = .ok () (W.alloc (.map (rom 2) 2)) := fun W => rom_ins W (rom 1) 1 118 5 rfl
    have hi2 : ∀ W : World, (Instr.mapUpdate 87 (.map (some W.heap.size)) (.int .i32 120) (.int .i64 10)).run Tryd.prog (W.alloc (.map (rom 2) 2)) = .ok () (W.alloc (.map (rom 3) 3)) := fun W => rom_ins W (rom 2) 2 120 10 rfl
    have hi3 : ∀ W : World, (Instr.mapUpdate 87 (.map (some W.heap.size)) (.int .i32 108) (.int .i64 50)).run Tryd.prog (W.alloc (.map (rom 3) 3)) = .ok () (W.alloc (.map (rom 4) 4)) := fun W => rom_ins W (rom 3) 3 108 50 rfl
    have hi4 : ∀ W : World, (Instr.mapUpdate 87 (.map (some W.heap.size)) (.int .i32 99) (.int .i64 100)).run Tryd.prog (W.alloc (.map (rom 4) 4)) = .ok () (W.alloc (.map (rom 5) 5)) := fun W => rom_ins W (rom 4) 4 99 100 rfl
    have hi5 : ∀ W : World, (Instr.mapUpdate 87 (.map (some W.heap.size)) (.int .i32 100) (.int .i64 500)).run Tryd.prog (W.alloc (.map (rom 5) 5)) = .ok () (W.alloc (.map (rom 6) 6)) := fun W => rom_ins W (rom 5) 5 100 500 rfl
    have hi6 : ∀ W : World, (Instr.mapUpdate 87 (.map (some W.heap.size)) (.int .i32 109) (.int .i64 1000)).run Tryd.prog (W.alloc (.map (rom 6) 6)) = .ok () (W.alloc (.map (rom 7) 7)) := fun W => rom_ins W (rom 6) 6 109 1000 rfl
    go_enter Tryd.func39, Tryd.ntmps39
    go_wp2_with (first
      | (go_at_call 57; (with_reducible refine (strings_Trim.calls a0 _ z _ HLD HZ.out).mono ?_); rintro e w1 ⟨rfl, hb1⟩; have HB1 := Lib.hid hb1; clear hb1)
      | (go_at_call 31; (with_reducible refine (strings_ToLower.calls a0 s _ (HLD.below HB1.out) HLW.out).mono ?_); rintro e w2 ⟨rfl, hb2⟩; have HB2 := Lib.hid (HB1.out.then_ hb2); clear hb2))
    have hsz : w.heap.size ≤ w2.heap.size := HB2.out.size
    have hne2 : w2.heap.size ≠ w2.heap.size + 1 := by omega
    go_loopw [5, 9] (fun v5 v9 wr => ∃ (pos fuel : Nat) (n last : Int), v5 = .int .i64 n ∧ v9 = .int .i64 last ∧ wr.heap[w2.heap.size + 1]? = some (.stringIter s pos) ∧ Hid (wr.heap[w2.heap.size]? = some (.map (rom 7) 7)) ∧ Hid (Below w.heap.size w wr) ∧ Hid (guessR fuel (s.data.toList.drop pos) n last = R) ∧ s.size ≤ pos + fuel ∧ pos ≤ s.size ∧ Hid (-(2000 * (pos : Int)) ≤ n ∧ n ≤ 10000 ∧ 0 ≤ last ∧ last ≤ 1000)) (fun _ _ wr => s.size - wr.iterPos (w2.heap.size + 1))
    case atStart =>
      refine ⟨0, s.size, 0, 0, rfl, rfl, ?_, ?_, ?_, HR, by omega, Nat.zero_le _, Lib.hid (by omega)⟩
      · have h3 := World.iter_heap (w2.alloc (.map (rom 7) 7)) s 0
        rw [World.size_alloc] at h3
        exact h3
      · refine Lib.hid ?_
        have h1 : (w2.alloc (.map (rom 7) 7)).heap[w2.heap.size]? = some (.map (rom 7) 7) := by
          show (w2.heap.push _)[w2.heap.size]? = _
          simp
        exact (((Below.refl (w2.alloc (.map (rom 7) 7)).heap.size (w2.alloc (.map (rom 7) 7))).alloc (Nat.le_refl _) _).block w2.heap.size (by rw [World.size_alloc]; omega)).trans h1
      · exact Lib.hid ((HB2.out.alloc hsz _).alloc (by rw [World.size_alloc]; omega) _)
    case round =>
      clear HR HZ HLW e1 e2 e3 n2 n3 HI
      obtain ⟨pos, fuel, n, last, rfl, rfl, hit, hmap, hbw, hacc, hfu, hple, hn⟩ := hrel
      by_cases hp : pos < s.size
      · obtain ⟨r, N, hd, hdl, hN, hr⟩ := decode_facts s pos
        obtain ⟨f, rfl⟩ : ∃ f, fuel = f + 1 := ⟨fuel - 1, by omega⟩
        have hacc' := hacc.out
        rw [guessR, if_neg (drop_ne s pos hp), hdl] at hacc'
        simp only [List.drop_drop] at hacc'
        have hin := decode_in s pos r N hp hdl
        have hnx : ∀ ty, (Instr.next (.pointer (some ⟨w2.heap.size + 1, 0, none⟩)) true ty).run Tryd.prog wr = .ok (.tuple #[.bool true, .int .i64 pos, .int .i32 r]) (wr.iterAt (w2.heap.size + 1) s (pos + N)) := fun ty => by
          have := Lib.run_next_any_at (P := Tryd.prog) wr (w2.heap.size + 1) s pos ty hit hp
          rw [hd] at this
          exact this
        have hit2 := Lib.hid (Lib.iterAt_heap wr (w2.heap.size + 1) s pos (pos + N) hit)
        have hmap2 := Lib.hid ((Lib.iterAt_other wr (w2.heap.size + 1) w2.heap.size s (pos + N) hne2).trans hmap.out)
        have hbw2 := Lib.hid (Lib.below_iterAt hbw.out (k := w2.heap.size + 1) (by omega) s (pos + N))
        have hlk := rom_look (wr.iterAt (w2.heap.size + 1) s (pos + N)) w2.heap.size hmap2.out r
        have hm0 := Lib.hid (iter_pos hit)
        have hv := rval_le r
        obtain ⟨v, hve⟩ : ∃ v, rval r = v := ⟨_, rfl⟩
        rw [hve] at hlk hv hacc'
        clear hacc hd hdl hit hbw hmap hve
        obtain ⟨b1, b2, b3, b4⟩ := hn.out
        have e1 : wrap64 (n + v) = n + v := by unfold wrap64; omega
        have e2 : wrap64 (2 * last) = 2 * last := by unfold wrap64; omega
        have e3 : wrap64 (n + v - 2 * last) = n + v - 2 * last := by unfold wrap64; omega
        by_cases q1 : v > last
        · rw [if_pos q1] at hacc'
          have f1 : decide (v > last) = true := decide_eq_true q1
          by_cases q2 : n + v - 2 * last > 10000
          · rw [if_pos q2] at hacc'
            have f2 : decide (n + v - 2 * last > 10000) = true := decide_eq_true q2
            have HA := Lib.hid hacc'
            clear hacc' q1 q2 hn b1 b2 b3 b4 hv
            go_wp2
            go_ret
            exact ⟨by rw [← HA.out]; rfl, hbw2.out⟩
          · rw [if_neg q2] at hacc'
            have f2 : decide (n + v - 2 * last > 10000) = false := decide_eq_false q2
            have HA := Lib.hid hacc'
            have HN2 := Lib.hid (show -(2000 * ((pos + N : Nat) : Int)) ≤ n + v - 2 * last ∧ n + v - 2 * last ≤ 10000 ∧ 0 ≤ v ∧ v ≤ 1000 by omega)
            clear hacc' q1 q2 hn b1 b2 b3 b4 hv
            go_wp2
            go_roundw
            case rel => exact ⟨pos + N, f, n + v - 2 * last, v, congrArg (Value.int .i64) e3, rfl, hit2.out, hmap2, hbw2, HA, by omega, hin, HN2⟩
            case measure => rw [hm0.out, iter_pos hit2.out]; omega
        · rw [if_neg q1] at hacc'
          have f1 : decide (v > last) = false := decide_eq_false q1
          by_cases q2 : n + v > 10000
          · rw [if_pos q2] at hacc'
            have f2 : decide (n + v > 10000) = true := decide_eq_true q2
            have HA := Lib.hid hacc'
            clear hacc' q1 q2 hn b1 b2 b3 b4 hv
            go_wp2
            go_ret
            exact ⟨by rw [← HA.out]; rfl, hbw2.out⟩
          · rw [if_neg q2] at hacc'
            have f2 : decide (n + v > 10000) = false := decide_eq_false q2
            have HA := Lib.hid hacc'
            have HN2 := Lib.hid (show -(2000 * ((pos + N : Nat) : Int)) ≤ n + v ∧ n + v ≤ 10000 ∧ 0 ≤ v ∧ v ≤ 1000 by omega)
            clear hacc' q1 q2 hn b1 b2 b3 b4 hv
            go_wp2
            go_roundw
            case rel => exact ⟨pos + N, f, n + v, v, congrArg (Value.int .i64) e1, rfl, hit2.out, hmap2, hbw2, HA, by omega, hin, HN2⟩
            case measure => rw [hm0.out, iter_pos hit2.out]; omega
      · have hnx : ∀ ty, (Instr.next (.pointer (some ⟨w2.heap.size + 1, 0, none⟩)) true ty).run Tryd.prog wr = _ := fun ty => Lib.run_next_end_at wr (w2.heap.size + 1) s pos ty hit hp
        have hfin : n = R := by
          have h := hacc.out
          rw [drop_nil s pos hp, guessR_nil] at h
          exact h
        subst hfin
        clear hacc hn hit
        go_wp2
        go_ret
        exact ⟨rfl, hbw.out⟩
def xsort_guess.f (a0 a1 : ByteArray) : Option Int := if a0.size ≤ 1000000000 then
  (strings_Trim.f a0 (⟨#[48, 49, 50, 51, 52, 53, 54, 55, 56, 57]⟩ : ByteArray)).bind fun z =>
    if z.toList = [] ∧ a1.toList ≠ [97] ∧ a1.toList ≠ [65] then (if allDig a0.data.toList = true then some (dres a0.data.toList) else none)
    else (strings_ToLower.f a0).bind fun s => if s.size ≤ 1000000000 then (if a1.toList = [105] ∨ a1.toList = [73] then some (guessR s.size s.data.toList 0 0) else some (guessL s.size s.data.toList 0)) else none
  else none
theorem xsort_guess.calls (a0 a1 : ByteArray) (r : Int) (w : World) (HLD : Laid w) (h : xsort_guess.f a0 a1 = some r) :
    Calls Tryd.prog 39 #[.string a0, .string a1] w fun e w' => e = .returned (.int .i64 r) ∧ Below w.heap.size w w' := by
  unfold xsort_guess.f at h
  split at h
  · obtain ⟨z, hz, h⟩ := Option.bind_eq_some_iff.1 h
    have T : ∀ {l m : List UInt8}, l = m → (l == m) = true := fun h => beq_iff_eq.mpr h
    have F : ∀ {l m : List UInt8}, ¬ l = m → (l == m) = false := fun h => beq_eq_false_iff_ne.mpr h
    split at h
    · rename_i hc
      split at h
      · rename_i hd
        obtain rfl := Option.some.inj h
        refine guess_digits a0 a1 z hz (T hc.1) (F hc.2.1) (F hc.2.2) (by assumption) (fun c hc => ?_) w HLD
        have := List.all_eq_true.1 hd c hc
        exact of_decide_eq_true this
      · cases h
    · rename_i hc
      obtain ⟨s, hs, h⟩ := Option.bind_eq_some_iff.1 h
      split at h
      · rename_i hsz
        split at h
        · rename_i hi
          obtain rfl := Option.some.inj h
          have hzz : ¬ z.toList = [] := fun hz0 => hc ⟨hz0, by rcases hi with h | h <;> rw [h] <;> decide, by rcases hi with h | h <;> rw [h] <;> decide⟩
          by_cases h105 : a1.toList = [105]
          · exact guess_roman a0 a1 z s true hsz hz hs (F hzz) (T h105) (fun h => by cases h) w HLD
          · exact guess_roman a0 a1 z s false hsz hz hs (F hzz) (F h105) (fun _ => T (hi.resolve_left h105)) w HLD
        · rename_i hi
          obtain rfl := Option.some.inj h
          refine guess_letters a0 a1 z s hsz hz hs ?_ (F fun h => hi (.inl h)) (F fun h => hi (.inr h)) w HLD
          by_cases hz0 : z.toList = []
          · by_cases h97 : a1.toList = [97]
            · exact .inr (.inl (T h97))
            · exact .inr (.inr (T (Decidable.byContradiction fun h65 => hc ⟨hz0, h97, h65⟩)))
          · exact .inl (F hz0)
      · cases h
  · cases h

end Go.Proofs.YthedigbdkjcpfaaDoor.Print
