-- Laid by xprint.py (ours), out of the seat's translation; Lean checks it.
import Derived.Test.YtinefoocajnhmaaDoorPrint0
import Derived.Test.YtinefoocajnhmaaDoorPrintf26
import Derived.Test.YtinefoocajnhmaaDoorPrintf61
import Derived.Lib.Hide
namespace Go.Proofs.YtinefoocajnhmaaDoor.Print
open Go.RowKit Go.Proofs.YtinefoocajnhmaaDoorW.PrintWords Go.Proofs.YtinefoocajnhmaaDoorW.PrintLast Go.Proofs.YtinefoocajnhmaaDoorW.PrintMore
attribute [local go_sem] max2_int min2_int max_two min_two max_three min_three max_four min_four   -- for this text's walks alone
open Go.Proofs.YtinefoocajnhmaaDoor.Plain
set_option linter.unusedVariables false
set_option linter.unusedSimpArgs false

-- GIVEN stencil/stencilref01.narrow rounds making
def stencilref01_narrow.f (k : Nat) (l0 : List Int) (a1 : Int) : Option (ByteArray × Int × Int) :=
  if 0 ≤ a1 then (if a1 ≤ (l0.length : Int) then ((stencilref01_Bad.f k (strOfNums (l0.drop (a1 : Int).toNat))).bind fun t =>
    (if t.1 ≥ 0 then (if t.2 = true then some ((⟨#[]⟩ : ByteArray), 3, wrap64 (a1 + t.1)) else some ((⟨#[]⟩ : ByteArray), 4, wrap64 (a1 + t.1)))
     else (stencilref01_ends.f k (strOfNums (l0.drop (a1 : Int).toNat))).bind fun t2 => some (t2, 0, 0))) else none) else none
theorem stencilref01_narrow.mono : ∀ a0 a1 k, LeO (stencilref01_narrow.f k a0 a1) (stencilref01_narrow.f (k + 1) a0 a1) := by
  intro a0 a1 k
  unfold stencilref01_narrow.f
  repeat' first
      | (with_reducible exact stencilref01_Bad.mono _ _)
      | (with_reducible exact stencilref01_ends.mono _ _)
      | (with_reducible exact LeO.refl _)
      | (with_reducible exact LeO.none _)
      | (with_reducible refine LeO.ite ?_ ?_)
      | (with_reducible refine LeO.bind ?_ (fun _ => ?_))
set_option maxRecDepth 100000 in
set_option maxHeartbeats 4000000 in
theorem stencilref01_narrow.calls (k : Nat) (A0 : Option Addr) (c0 : Nat) (l0 : List Int) (a1 : Int) (r1 : ByteArray) (r2 : Int) (r3 : Int) (w : World) (hr0 : Kd.C (Kd.int .u8) w A0 l0.length l0) (hc0 : l0.length ≤ c0) (HLD : Laid w) (h : stencilref01_narrow.f k l0 a1 = some (r1, r2, r3)) :
    Calls Tryd.prog 62 #[.slice A0 l0.length c0, .int .i64 a1] w fun e w' => e = .returned (.tuple #[.string r1, .int .i64 r2, .int .i64 r3]) ∧ Below w.heap.size w w' := by
  unfold stencilref01_narrow.f at h
  split at h
  · rename_i p1
    split at h
    · rename_i p2
      obtain ⟨⟨t1, t2⟩, hB, h⟩ := Option.bind_eq_some_iff.1 h
      simp only at h
      have HBad := Lib.hid hB
      obtain ⟨i07, hi07, _, hsz7, _⟩ := info_parts info5
      obtain ⟨A7, hcut7, hA7, hC7⟩ := print_drop_of (P := Tryd.prog) (Value.int .u8) 0 37 5 .i64 Tryd.underlying37 hi07 hsz7 A0 c0 l0 a1 p1 p2 hc0
      have HR := Lib.hid (Kd.C_of_reads (h1 := fun _ => rfl) (hA7 _ (Kd.reads_of_C hr0)))
      have hcv8 := Kd.C_string (P := Tryd.prog) (A := A7) (c := (c0 - a1.toNat)) Tryd.underlying37 Tryd.underlying5 Tryd.underlying9 HR.out
      clear hA7 hC7 hi07 hsz7 hB
      rw [List.length_drop] at hcut7 hcv8
      by_cases c1 : t1 ≥ 0
      · rw [if_pos c1] at h
        have c1b : decide (0 ≤ t1) = true := decide_eq_true c1
        cases t2 with
        | true =>
          rw [if_pos rfl] at h
          simp only [Option.some.injEq, Prod.mk.injEq] at h
          obtain ⟨rfl, rfl, rfl⟩ := h
          go_enter Tryd.func62, Tryd.ntmps62
          go_wp2_with (go_at_call 55; refine (stencilref01_Bad.calls k _ _ _ _ HLD HBad.out).mono ?_; rintro e w1 ⟨rfl, hb⟩)
          go_ret3
          exact ⟨rfl, hb⟩
        | false =>
          rw [if_neg (by decide)] at h
          simp only [Option.some.injEq, Prod.mk.injEq] at h
          obtain ⟨rfl, rfl, rfl⟩ := h
          go_enter Tryd.func62, Tryd.ntmps62
          go_wp2_with (go_at_call 55; refine (stencilref01_Bad.calls k _ _ _ _ HLD HBad.out).mono ?_; rintro e w1 ⟨rfl, hb⟩)
          go_ret3
          exact ⟨rfl, hb⟩
      · rw [if_neg c1] at h
        have c1b : decide (0 ≤ t1) = false := decide_eq_false (by omega)
        obtain ⟨t4, hE, h⟩ := Option.bind_eq_some_iff.1 h
        simp only [Option.some.injEq, Prod.mk.injEq] at h
        obtain ⟨rfl, rfl, rfl⟩ := h
        have HEnds := Lib.hid hE
        clear hE
        go_enter Tryd.func62, Tryd.ntmps62
        go_wp2_with (first
          | (go_at_call 55; (with_reducible refine (stencilref01_Bad.calls k _ _ _ _ HLD HBad.out).mono ?_); rintro e w1 ⟨rfl, hb⟩; have hcv9 := Kd.C_string (P := Tryd.prog) (A := A7) (c := (c0 - a1.toNat)) Tryd.underlying37 Tryd.underlying5 Tryd.underlying9 (Kd.C_below HR.out hb); rw [List.length_drop] at hcv9)
          | (go_at_call 89; (with_reducible refine (stencilref01_ends.calls k _ _ _ (HLD.below hb) HEnds.out).mono ?_); rintro e w2 ⟨rfl, hb2⟩))
        go_ret3
        exact ⟨rfl, hb.then_ hb2⟩
    · cases h
  · cases h

end Go.Proofs.YtinefoocajnhmaaDoor.Print
