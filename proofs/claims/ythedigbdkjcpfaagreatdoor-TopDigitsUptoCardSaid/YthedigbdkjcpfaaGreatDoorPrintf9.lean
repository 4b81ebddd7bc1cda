-- Laid by xprint.py (ours), out of the seat's translation; Lean checks it.
import Derived.Test.YthedigbdkjcpfaaGreatDoorPrint0
import Derived.Test.YthedigbdkjcpfaaGreatDoorPrintf48
import Derived.Test.YthedigbdkjcpfaaGreatDoorPrintf24
import Derived.Test.YthedigbdkjcpfaaGreatDoorPrintxcharwide
import Derived.Test.YthedigbdkjcpfaaGreatDoorPrintf53
import Derived.Test.YthedigbdkjcpfaaGreatDoorPrintxcharbad
namespace Go.Proofs.YthedigbdkjcpfaaGreatDoor.Print
open Go.RowKit Go.Proofs.YthedigbdkjcpfaaGreatDoorW.PrintWords Go.Proofs.YthedigbdkjcpfaaGreatDoorW.PrintLast Go.Proofs.YthedigbdkjcpfaaGreatDoorW.PrintMore
attribute [local go_sem] max2_int min2_int max_two min_two max_three min_three max_four min_four   -- for this text's walks alone
open Go.Proofs.YthedigbdkjcpfaaGreatDoor.Plain
set_option linter.unusedVariables false
set_option linter.unusedSimpArgs false

/-! ### xchar_Decode: function 9 -/
def xchar_Decode.f (l0 : List Int) : Option (ByteArray × Int × Int) := if (l0.length : Int) > 32768 then (some ((⟨#[]⟩ : ByteArray), 6, 0)) else ((strings_HasPrefix.f (strOfNums l0) (⟨#[254, 255]⟩ : ByteArray)).bind fun t121 => (if t121 = true then ((xchar_wide.f l0 0).bind fun bt122 => (some (bt122.1, bt122.2.1, bt122.2.2))) else ((strings_HasPrefix.f (strOfNums l0) (⟨#[255, 254]⟩ : ByteArray)).bind fun t125 => (if t125 = true then ((xchar_wide.f l0 1).bind fun bt126 => (some (bt126.1, bt126.2.1, bt126.2.2))) else ((strings_TrimPrefix.f (strOfNums l0) (⟨#[239, 187, 191]⟩ : ByteArray)).bind fun t129 => ((xchar_bad.f t129).bind fun bt130 => (if bt130.2 = 0 then ((xchar_lines.f t129).bind fun t132 => (some (t132, 0, 0))) else (some ((⟨#[]⟩ : ByteArray), bt130.2, wrap64 ((wrap64 (((strOfNums l0).size : Int) - (t129.size : Int))) + bt130.1))))))))))
set_option maxHeartbeats 8000000 in
set_option maxRecDepth 100000 in
theorem xchar_Decode.calls (A0 : Option Addr) (c0 : Nat) (l0 : List Int) (r1 : ByteArray) (r2 : Int) (r3 : Int) (w : World) (hr0 : Kd.C (Kd.int .u8) w A0 l0.length l0) (hc0 : l0.length ≤ c0) (HLD : Laid w) (h : xchar_Decode.f l0 = some (r1, r2, r3)) :
    Calls Tryz.prog 9 #[.slice A0 l0.length c0] w fun e w' => e = .returned (.tuple #[.string r1, .int .i64 r2, .int .i64 r3]) ∧ Below w.heap.size w w' := by
  have HR0 := Aside0.mk hr0
  have HC0 := Aside0.mk hc0
  clear hr0 hc0
  have HB := Aside0.mk (Below.refl w.heap.size w)
  have H : (if (l0.length : Int) > 32768 then (some ((⟨#[]⟩ : ByteArray), 6, 0)) else ((strings_HasPrefix.f (strOfNums l0) (⟨#[254, 255]⟩ : ByteArray)).bind fun t121 => (if t121 = true then ((xchar_wide.f l0 0).bind fun bt122 => (some (bt122.1, bt122.2.1, bt122.2.2))) else ((strings_HasPrefix.f (strOfNums l0) (⟨#[255, 254]⟩ : ByteArray)).bind fun t125 => (if t125 = true then ((xchar_wide.f l0 1).bind fun bt126 => (some (bt126.1, bt126.2.1, bt126.2.2))) else ((strings_TrimPrefix.f (strOfNums l0) (⟨#[239, 187, 191]⟩ : ByteArray)).bind fun t129 => ((xchar_bad.f t129).bind fun bt130 => (if bt130.2 = 0 then ((xchar_lines.f t129).bind fun t132 => (some (t132, 0, 0))) else (some ((⟨#[]⟩ : ByteArray), bt130.2, wrap64 ((wrap64 (((strOfNums l0).size : Int) - (t129.size : Int))) + bt130.1))))))))))) = some (r1, r2, r3) := h
  clear h
  by_cases c2 : (l0.length : Int) > 32768
  · rw [if_pos c2] at H
    have c2b0 : decide (32768 < (l0.length : Int)) = true := decide_eq_true c2
    have c2b1 : decide (32768 < l0.length) = true := decide_eq_true (by omega)
    clear c2
    simp only [Option.some.injEq, Prod.mk.injEq] at H
    obtain ⟨rfl, rfl, rfl⟩ := H
    have hcv3 := Kd.C_string (P := Tryz.prog) (A := A0) (c := c0) Tryz.underlying28 Tryz.underlying5 Tryz.underlying9 HR0.out
    go_enter Tryz.func9, Tryz.ntmps9
    go_wp2
    go_ret3
    exact ⟨by first | rfl | (simp [errW_none, errW_some] <;> rfl) | (simp [*, errW_none, errW_some] <;> rfl), by repeat (first | (with_reducible first | exact HB.out | apply below_alloc | apply pw_below_drewN | apply below_drew1) | exact HB.out)⟩
  · rw [if_neg c2] at H
    have c2b0 : decide (32768 < (l0.length : Int)) = false := decide_eq_false c2
    have c2b1 : decide (32768 < l0.length) = false := decide_eq_false (by omega)
    clear c2
    replace H := Option.bind_eq_some_iff.mp H
    obtain ⟨t121, A40, H⟩ := H
    replace H : (if t121 = true then ((xchar_wide.f l0 0).bind fun bt122 => (some (bt122.1, bt122.2.1, bt122.2.2))) else ((strings_HasPrefix.f (strOfNums l0) (⟨#[255, 254]⟩ : ByteArray)).bind fun t125 => (if t125 = true then ((xchar_wide.f l0 1).bind fun bt126 => (some (bt126.1, bt126.2.1, bt126.2.2))) else ((strings_TrimPrefix.f (strOfNums l0) (⟨#[239, 187, 191]⟩ : ByteArray)).bind fun t129 => ((xchar_bad.f t129).bind fun bt130 => (if bt130.2 = 0 then ((xchar_lines.f t129).bind fun t132 => (some (t132, 0, 0))) else (some ((⟨#[]⟩ : ByteArray), bt130.2, wrap64 ((wrap64 (((strOfNums l0).size : Int) - (t129.size : Int))) + bt130.1))))))))) = some (r1, r2, r3) := H
    have A4 := Aside0.mk A40
    clear A40
    by_cases c5 : t121 = true
    · subst c5
      have H1 : ((xchar_wide.f l0 0).bind fun bt122 => (some (bt122.1, bt122.2.1, bt122.2.2))) = some (r1, r2, r3) := by rw [if_pos rfl] at H; exact H
      clear H
      have H := H1
      clear H1
      replace H := Option.bind_eq_some_iff.mp H
      obtain ⟨⟨t122, t123, t124⟩, A60, H⟩ := H
      replace H : (some (t122, t123, t124)) = some (r1, r2, r3) := H
      have A6 := Aside0.mk A60
      clear A60
      simp only [Option.some.injEq, Prod.mk.injEq] at H
      obtain ⟨rfl, rfl, rfl⟩ := H
      have hcv7 := Kd.C_string (P := Tryz.prog) (A := A0) (c := c0) Tryz.underlying28 Tryz.underlying5 Tryz.underlying9 HR0.out
      go_enter Tryz.func9, Tryz.ntmps9
      go_wp2_with (first | ((with_reducible refine gate_callee (f := 20) rfl ?_); refine goesL_ (some 17) rfl rfl Tryz.func20 (by kernel_rfl) rfl #[.string (strOfNums l0), .string (⟨#[254, 255]⟩ : ByteArray)] rfl (by (try simp only [List.map_toArray, List.map_cons, List.map_nil]); first | done | rfl | (simp only [List.length_drop, List.length_take]; rfl)) ?_; (with_reducible refine (strings_HasPrefix.calls (strOfNums l0) (⟨#[254, 255]⟩ : ByteArray) true _ ?side1 A4.out).mono ?_); (case side1 => first | exact HLD | exact Laid.below HLD (by repeat (first | (with_reducible first | exact HB.out | apply below_alloc | apply pw_below_drewN | apply below_drew1) | exact HB.out))); rintro e w' ⟨rfl, ⟨nd, rfl⟩⟩; refine ⟨_, rfl, ?_⟩) | ((with_reducible refine gate_callee (f := 21) rfl ?_); refine goesL_ (some 19) rfl rfl Tryz.func21 (by kernel_rfl) rfl #[.slice A0 l0.length c0, .int .i64 0] rfl (by (try simp only [List.map_toArray, List.map_cons, List.map_nil]); first | done | rfl | (simp only [List.length_drop, List.length_take]; rfl)) ?_; (with_reducible refine (xchar_wide.calls _ _ l0 0 t122 t123 t124 _ ?side1 ?side2 ?side3 A6.out).mono ?_); (case side1 => repeat (first | exact HR0.out | (with_reducible refine Kd.C_alloc ?_ _) | (with_reducible refine Kd.C_drewN ?_ _) | (with_reducible refine Kd.C_drew ?_))); (case side2 => exact HC0.out); (case side3 => first | exact HLD | exact Laid.below HLD (by repeat (first | (with_reducible first | exact HB.out | apply below_alloc | apply pw_below_drewN | apply below_drew1) | exact HB.out))); rintro e w8 ⟨rfl, hb⟩; refine ⟨_, rfl, ?_⟩; have n0_ := Aside0.mk (below_step (by repeat (first | (with_reducible first | exact HB.out | apply below_alloc | apply pw_below_drewN | apply below_drew1) | exact HB.out)) hb); clear HB; have HB := n0_; clear n0_; (try clear hb); (try clear hb2); (try clear hk); (try clear hi)))
      go_ret3
      exact ⟨by first | rfl | (simp [errW_none, errW_some] <;> rfl) | (simp [*, errW_none, errW_some] <;> rfl), by repeat (first | (with_reducible first | exact HB.out | apply below_alloc | apply pw_below_drewN | apply below_drew1) | exact HB.out)⟩
    · replace c5 := Bool.eq_false_iff.mpr c5
      subst c5
      have H1 : ((strings_HasPrefix.f (strOfNums l0) (⟨#[255, 254]⟩ : ByteArray)).bind fun t125 => (if t125 = true then ((xchar_wide.f l0 1).bind fun bt126 => (some (bt126.1, bt126.2.1, bt126.2.2))) else ((strings_TrimPrefix.f (strOfNums l0) (⟨#[239, 187, 191]⟩ : ByteArray)).bind fun t129 => ((xchar_bad.f t129).bind fun bt130 => (if bt130.2 = 0 then ((xchar_lines.f t129).bind fun t132 => (some (t132, 0, 0))) else (some ((⟨#[]⟩ : ByteArray), bt130.2, wrap64 ((wrap64 (((strOfNums l0).size : Int) - (t129.size : Int))) + bt130.1)))))))) = some (r1, r2, r3) := by rw [if_neg (show ¬ (false = true) by decide)] at H; exact H
      clear H
      have H := H1
      clear H1
      replace H := Option.bind_eq_some_iff.mp H
      obtain ⟨t125, A90, H⟩ := H
      replace H : (if t125 = true then ((xchar_wide.f l0 1).bind fun bt126 => (some (bt126.1, bt126.2.1, bt126.2.2))) else ((strings_TrimPrefix.f (strOfNums l0) (⟨#[239, 187, 191]⟩ : ByteArray)).bind fun t129 => ((xchar_bad.f t129).bind fun bt130 => (if bt130.2 = 0 then ((xchar_lines.f t129).bind fun t132 => (some (t132, 0, 0))) else (some ((⟨#[]⟩ : ByteArray), bt130.2, wrap64 ((wrap64 (((strOfNums l0).size : Int) - (t129.size : Int))) + bt130.1))))))) = some (r1, r2, r3) := H
      have A9 := Aside0.mk A90
      clear A90
      by_cases c10 : t125 = true
      · subst c10
        have H1 : ((xchar_wide.f l0 1).bind fun bt126 => (some (bt126.1, bt126.2.1, bt126.2.2))) = some (r1, r2, r3) := by rw [if_pos rfl] at H; exact H
        clear H
        have H := H1
        clear H1
        replace H := Option.bind_eq_some_iff.mp H
        obtain ⟨⟨t126, t127, t128⟩, A110, H⟩ := H
        replace H : (some (t126, t127, t128)) = some (r1, r2, r3) := H
        have A11 := Aside0.mk A110
        clear A110
        simp only [Option.some.injEq, Prod.mk.injEq] at H
        obtain ⟨rfl, rfl, rfl⟩ := H
        have hcv12 := Kd.C_string (P := Tryz.prog) (A := A0) (c := c0) Tryz.underlying28 Tryz.underlying5 Tryz.underlying9 HR0.out
        go_enter Tryz.func9, Tryz.ntmps9
        go_wp2_with (first | ((with_reducible refine gate_callee (f := 20) rfl ?_); refine goesL_ (some 17) rfl rfl Tryz.func20 (by kernel_rfl) rfl #[.string (strOfNums l0), .string (⟨#[254, 255]⟩ : ByteArray)] rfl (by (try simp only [List.map_toArray, List.map_cons, List.map_nil]); first | done | rfl | (simp only [List.length_drop, List.length_take]; rfl)) ?_; (with_reducible refine (strings_HasPrefix.calls (strOfNums l0) (⟨#[254, 255]⟩ : ByteArray) false _ ?side1 A4.out).mono ?_); (case side1 => first | exact HLD | exact Laid.below HLD (by repeat (first | (with_reducible first | exact HB.out | apply below_alloc | apply pw_below_drewN | apply below_drew1) | exact HB.out))); rintro e w' ⟨rfl, ⟨nd, rfl⟩⟩; refine ⟨_, rfl, ?_⟩) | ((with_reducible refine gate_callee (f := 20) rfl ?_); refine goesL_ (some 25) rfl rfl Tryz.func20 (by kernel_rfl) rfl #[.string (strOfNums l0), .string (⟨#[255, 254]⟩ : ByteArray)] rfl (by (try simp only [List.map_toArray, List.map_cons, List.map_nil]); first | done | rfl | (simp only [List.length_drop, List.length_take]; rfl)) ?_; (with_reducible refine (strings_HasPrefix.calls (strOfNums l0) (⟨#[255, 254]⟩ : ByteArray) true _ ?side1 A9.out).mono ?_); (case side1 => first | exact HLD | exact Laid.below HLD (by repeat (first | (with_reducible first | exact HB.out | apply below_alloc | apply pw_below_drewN | apply below_drew1) | exact HB.out))); rintro e w' ⟨rfl, ⟨nd, rfl⟩⟩; refine ⟨_, rfl, ?_⟩) | ((with_reducible refine gate_callee (f := 21) rfl ?_); refine goesL_ (some 27) rfl rfl Tryz.func21 (by kernel_rfl) rfl #[.slice A0 l0.length c0, .int .i64 1] rfl (by (try simp only [List.map_toArray, List.map_cons, List.map_nil]); first | done | rfl | (simp only [List.length_drop, List.length_take]; rfl)) ?_; (with_reducible refine (xchar_wide.calls _ _ l0 1 t126 t127 t128 _ ?side1 ?side2 ?side3 A11.out).mono ?_); (case side1 => repeat (first | exact HR0.out | (with_reducible refine Kd.C_alloc ?_ _) | (with_reducible refine Kd.C_drewN ?_ _) | (with_reducible refine Kd.C_drew ?_))); (case side2 => exact HC0.out); (case side3 => first | exact HLD | exact Laid.below HLD (by repeat (first | (with_reducible first | exact HB.out | apply below_alloc | apply pw_below_drewN | apply below_drew1) | exact HB.out))); rintro e w13 ⟨rfl, hb⟩; refine ⟨_, rfl, ?_⟩; have n0_ := Aside0.mk (below_step (by repeat (first | (with_reducible first | exact HB.out | apply below_alloc | apply pw_below_drewN | apply below_drew1) | exact HB.out)) hb); clear HB; have HB := n0_; clear n0_; (try clear hb); (try clear hb2); (try clear hk); (try clear hi)))
        go_ret3
        exact ⟨by first | rfl | (simp [errW_none, errW_some] <;> rfl) | (simp [*, errW_none, errW_some] <;> rfl), by repeat (first | (with_reducible first | exact HB.out | apply below_alloc | apply pw_below_drewN | apply below_drew1) | exact HB.out)⟩
      · replace c10 := Bool.eq_false_iff.mpr c10
        subst c10
        have H1 : ((strings_TrimPrefix.f (strOfNums l0) (⟨#[239, 187, 191]⟩ : ByteArray)).bind fun t129 => ((xchar_bad.f t129).bind fun bt130 => (if bt130.2 = 0 then ((xchar_lines.f t129).bind fun t132 => (some (t132, 0, 0))) else (some ((⟨#[]⟩ : ByteArray), bt130.2, wrap64 ((wrap64 (((strOfNums l0).size : Int) - (t129.size : Int))) + bt130.1)))))) = some (r1, r2, r3) := by rw [if_neg (show ¬ (false = true) by decide)] at H; exact H
        clear H
        have H := H1
        clear H1
        replace H := Option.bind_eq_some_iff.mp H
        obtain ⟨t129, A140, H⟩ := H
        replace H : ((xchar_bad.f t129).bind fun bt130 => (if bt130.2 = 0 then ((xchar_lines.f t129).bind fun t132 => (some (t132, 0, 0))) else (some ((⟨#[]⟩ : ByteArray), bt130.2, wrap64 ((wrap64 (((strOfNums l0).size : Int) - (t129.size : Int))) + bt130.1))))) = some (r1, r2, r3) := H
        have A14 := Aside0.mk A140
        clear A140
        replace H := Option.bind_eq_some_iff.mp H
        obtain ⟨⟨t130, t131⟩, A150, H⟩ := H
        replace H : (if t131 = 0 then ((xchar_lines.f t129).bind fun t132 => (some (t132, 0, 0))) else (some ((⟨#[]⟩ : ByteArray), t131, wrap64 ((wrap64 (((strOfNums l0).size : Int) - (t129.size : Int))) + t130)))) = some (r1, r2, r3) := H
        have A15 := Aside0.mk A150
        clear A150
        by_cases c16 : t131 = 0
        · rw [if_pos c16] at H
          have c16b0 : (t131 == 0) = true := beq_iff_eq.mpr c16
          have c16b1 : (t131 != 0) = false := bne_eq_false_iff_eq.mpr c16
          clear c16
          replace H := Option.bind_eq_some_iff.mp H
          obtain ⟨t132, A170, H⟩ := H
          replace H : (some (t132, 0, 0)) = some (r1, r2, r3) := H
          have A17 := Aside0.mk A170
          clear A170
          simp only [Option.some.injEq, Prod.mk.injEq] at H
          obtain ⟨rfl, rfl, rfl⟩ := H
          have hcv18 := Kd.C_string (P := Tryz.prog) (A := A0) (c := c0) Tryz.underlying28 Tryz.underlying5 Tryz.underlying9 HR0.out
          go_enter Tryz.func9, Tryz.ntmps9
          go_wp2_with (first | ((with_reducible refine gate_callee (f := 20) rfl ?_); refine goesL_ (some 17) rfl rfl Tryz.func20 (by kernel_rfl) rfl #[.string (strOfNums l0), .string (⟨#[254, 255]⟩ : ByteArray)] rfl (by (try simp only [List.map_toArray, List.map_cons, List.map_nil]); first | done | rfl | (simp only [List.length_drop, List.length_take]; rfl)) ?_; (with_reducible refine (strings_HasPrefix.calls (strOfNums l0) (⟨#[254, 255]⟩ : ByteArray) false _ ?side1 A4.out).mono ?_); (case side1 => first | exact HLD | exact Laid.below HLD (by repeat (first | (with_reducible first | exact HB.out | apply below_alloc | apply pw_below_drewN | apply below_drew1) | exact HB.out))); rintro e w' ⟨rfl, ⟨nd, rfl⟩⟩; refine ⟨_, rfl, ?_⟩) | ((with_reducible refine gate_callee (f := 20) rfl ?_); refine goesL_ (some 25) rfl rfl Tryz.func20 (by kernel_rfl) rfl #[.string (strOfNums l0), .string (⟨#[255, 254]⟩ : ByteArray)] rfl (by (try simp only [List.map_toArray, List.map_cons, List.map_nil]); first | done | rfl | (simp only [List.length_drop, List.length_take]; rfl)) ?_; (with_reducible refine (strings_HasPrefix.calls (strOfNums l0) (⟨#[255, 254]⟩ : ByteArray) false _ ?side1 A9.out).mono ?_); (case side1 => first | exact HLD | exact Laid.below HLD (by repeat (first | (with_reducible first | exact HB.out | apply below_alloc | apply pw_below_drewN | apply below_drew1) | exact HB.out))); rintro e w' ⟨rfl, ⟨nd, rfl⟩⟩; refine ⟨_, rfl, ?_⟩) | ((with_reducible refine gate_callee (f := 22) rfl ?_); refine goesL_ (some 32) rfl rfl Tryz.func22 (by kernel_rfl) rfl #[.string (strOfNums l0), .string (⟨#[239, 187, 191]⟩ : ByteArray)] rfl (by (try simp only [List.map_toArray, List.map_cons, List.map_nil]); first | done | rfl | (simp only [List.length_drop, List.length_take]; rfl)) ?_; (with_reducible refine (strings_TrimPrefix.calls (strOfNums l0) (⟨#[239, 187, 191]⟩ : ByteArray) t129 _ ?side1 A14.out).mono ?_); (case side1 => first | exact HLD | exact Laid.below HLD (by repeat (first | (with_reducible first | exact HB.out | apply below_alloc | apply pw_below_drewN | apply below_drew1) | exact HB.out))); rintro e w' ⟨rfl, ⟨nd, rfl⟩⟩; refine ⟨_, rfl, ?_⟩) | ((with_reducible refine gate_callee (f := 23) rfl ?_); refine goesL_ (some 35) rfl rfl Tryz.func23 (by kernel_rfl) rfl #[.string t129] rfl (by (try simp only [List.map_toArray, List.map_cons, List.map_nil]); first | done | rfl | (simp only [List.length_drop, List.length_take]; rfl)) ?_; (with_reducible refine (xchar_bad.calls t129 t130 t131 _ ?side1 A15.out).mono ?_); (case side1 => first | exact HLD | exact Laid.below HLD (by repeat (first | (with_reducible first | exact HB.out | apply below_alloc | apply pw_below_drewN | apply below_drew1) | exact HB.out))); rintro e w19 ⟨rfl, hb⟩; refine ⟨_, rfl, ?_⟩; have n0_ := Aside0.mk (below_step (by repeat (first | (with_reducible first | exact HB.out | apply below_alloc | apply pw_below_drewN | apply below_drew1) | exact HB.out)) hb); clear HB; have HB := n0_; clear n0_; (try clear hb); (try clear hb2); (try clear hk); (try clear hi)) | ((with_reducible refine gate_callee (f := 24) rfl ?_); refine goesL_ (some 49) rfl rfl Tryz.func24 (by kernel_rfl) rfl #[.string t129] rfl (by (try simp only [List.map_toArray, List.map_cons, List.map_nil]); first | done | rfl | (simp only [List.length_drop, List.length_take]; rfl)) ?_; (with_reducible refine (xchar_lines.calls t129 t132 _ ?side1 A17.out).mono ?_); (case side1 => first | exact HLD | exact Laid.below HLD (by repeat (first | (with_reducible first | exact HB.out | apply below_alloc | apply pw_below_drewN | apply below_drew1) | exact HB.out))); rintro e w20 ⟨rfl, hb⟩; refine ⟨_, rfl, ?_⟩; have n0_ := Aside0.mk (below_step (by repeat (first | (with_reducible first | exact HB.out | apply below_alloc | apply pw_below_drewN | apply below_drew1) | exact HB.out)) hb); clear HB; have HB := n0_; clear n0_; (try clear hb); (try clear hb2); (try clear hk); (try clear hi)))
          go_ret3
          exact ⟨by first | rfl | (simp [errW_none, errW_some] <;> rfl) | (simp [*, errW_none, errW_some] <;> rfl), by repeat (first | (with_reducible first | exact HB.out | apply below_alloc | apply pw_below_drewN | apply below_drew1) | exact HB.out)⟩
        · rw [if_neg c16] at H
          have c16b0 : (t131 == 0) = false := beq_eq_false_iff_ne.mpr c16
          have c16b1 : (t131 != 0) = true := bne_iff_ne.mpr c16
          simp only [Option.some.injEq, Prod.mk.injEq] at H
          obtain ⟨rfl, rfl, rfl⟩ := H
          have hcv21 := Kd.C_string (P := Tryz.prog) (A := A0) (c := c0) Tryz.underlying28 Tryz.underlying5 Tryz.underlying9 HR0.out
          go_enter Tryz.func9, Tryz.ntmps9
          go_wp2_with (first | ((with_reducible refine gate_callee (f := 20) rfl ?_); refine goesL_ (some 17) rfl rfl Tryz.func20 (by kernel_rfl) rfl #[.string (strOfNums l0), .string (⟨#[254, 255]⟩ : ByteArray)] rfl (by (try simp only [List.map_toArray, List.map_cons, List.map_nil]); first | done | rfl | (simp only [List.length_drop, List.length_take]; rfl)) ?_; (with_reducible refine (strings_HasPrefix.calls (strOfNums l0) (⟨#[254, 255]⟩ : ByteArray) false _ ?side1 A4.out).mono ?_); (case side1 => first | exact HLD | exact Laid.below HLD (by repeat (first | (with_reducible first | exact HB.out | apply below_alloc | apply pw_below_drewN | apply below_drew1) | exact HB.out))); rintro e w' ⟨rfl, ⟨nd, rfl⟩⟩; refine ⟨_, rfl, ?_⟩) | ((with_reducible refine gate_callee (f := 20) rfl ?_); refine goesL_ (some 25) rfl rfl Tryz.func20 (by kernel_rfl) rfl #[.string (strOfNums l0), .string (⟨#[255, 254]⟩ : ByteArray)] rfl (by (try simp only [List.map_toArray, List.map_cons, List.map_nil]); first | done | rfl | (simp only [List.length_drop, List.length_take]; rfl)) ?_; (with_reducible refine (strings_HasPrefix.calls (strOfNums l0) (⟨#[255, 254]⟩ : ByteArray) false _ ?side1 A9.out).mono ?_); (case side1 => first | exact HLD | exact Laid.below HLD (by repeat (first | (with_reducible first | exact HB.out | apply below_alloc | apply pw_below_drewN | apply below_drew1) | exact HB.out))); rintro e w' ⟨rfl, ⟨nd, rfl⟩⟩; refine ⟨_, rfl, ?_⟩) | ((with_reducible refine gate_callee (f := 22) rfl ?_); refine goesL_ (some 32) rfl rfl Tryz.func22 (by kernel_rfl) rfl #[.string (strOfNums l0), .string (⟨#[239, 187, 191]⟩ : ByteArray)] rfl (by (try simp only [List.map_toArray, List.map_cons, List.map_nil]); first | done | rfl | (simp only [List.length_drop, List.length_take]; rfl)) ?_; (with_reducible refine (strings_TrimPrefix.calls (strOfNums l0) (⟨#[239, 187, 191]⟩ : ByteArray) t129 _ ?side1 A14.out).mono ?_); (case side1 => first | exact HLD | exact Laid.below HLD (by repeat (first | (with_reducible first | exact HB.out | apply below_alloc | apply pw_below_drewN | apply below_drew1) | exact HB.out))); rintro e w' ⟨rfl, ⟨nd, rfl⟩⟩; refine ⟨_, rfl, ?_⟩) | ((with_reducible refine gate_callee (f := 23) rfl ?_); refine goesL_ (some 35) rfl rfl Tryz.func23 (by kernel_rfl) rfl #[.string t129] rfl (by (try simp only [List.map_toArray, List.map_cons, List.map_nil]); first | done | rfl | (simp only [List.length_drop, List.length_take]; rfl)) ?_; (with_reducible refine (xchar_bad.calls t129 t130 t131 _ ?side1 A15.out).mono ?_); (case side1 => first | exact HLD | exact Laid.below HLD (by repeat (first | (with_reducible first | exact HB.out | apply below_alloc | apply pw_below_drewN | apply below_drew1) | exact HB.out))); rintro e w22 ⟨rfl, hb⟩; refine ⟨_, rfl, ?_⟩; have n0_ := Aside0.mk (below_step (by repeat (first | (with_reducible first | exact HB.out | apply below_alloc | apply pw_below_drewN | apply below_drew1) | exact HB.out)) hb); clear HB; have HB := n0_; clear n0_; (try clear hb); (try clear hb2); (try clear hk); (try clear hi)))
          go_ret3
          exact ⟨by first | rfl | (simp [errW_none, errW_some] <;> rfl) | (simp [*, errW_none, errW_some] <;> rfl), by repeat (first | (with_reducible first | exact HB.out | apply below_alloc | apply pw_below_drewN | apply below_drew1) | exact HB.out)⟩

end Go.Proofs.YthedigbdkjcpfaaGreatDoor.Print
