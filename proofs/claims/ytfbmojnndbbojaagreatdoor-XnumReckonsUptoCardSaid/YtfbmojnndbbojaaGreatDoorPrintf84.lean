-- Laid by xprint.py (ours), out of the seat's translation; Lean checks it.
import Derived.Test.YtfbmojnndbbojaaGreatDoorPrint0
import Derived.Test.YtfbmojnndbbojaaGreatDoorPrintf80
namespace Go.Proofs.YtfbmojnndbbojaaGreatDoor.Print
open Go.RowKit Go.Proofs.YtfbmojnndbbojaaGreatDoorW.PrintWords Go.Proofs.YtfbmojnndbbojaaGreatDoorW.PrintLast Go.Proofs.YtfbmojnndbbojaaGreatDoorW.PrintMore
attribute [local go_sem] max2_int min2_int max_two min_two max_three min_three max_four min_four   -- for this text's walks alone
open Go.Proofs.YtfbmojnndbbojaaGreatDoor.Plain
set_option linter.unusedVariables false
set_option linter.unusedSimpArgs false

/-! ### stencilref02_quotient: function 84 -/
def stencilref02_quotient.l0 : Nat → Int → Int → List Int → Int → Int → Int → Option (Int × Bool)
 | 0, _, _, _, _, _, _ => none
 | k + 1, x1, x2, x8, x9, x10, x11 => if x11 ≥ (wrap64 (-x2)) then (if x11 ≥ 0 then (if 0 ≤ x11 then (if x11 < (x8.length : Int) then (if x10 > 1000000000000000000 then (some (0, true)) else (if x1 = 0 then (none) else (stencilref02_quotient.l0 k x1 x2 x8 (Int.tmod (IntKind.u64.wrap ((IntKind.u64.wrap (x9 * 10)) + (IntKind.u64.wrap (rd x8 x11)))) x1) (IntKind.u64.wrap ((IntKind.u64.wrap (x10 * 10)) + (IntKind.u64.wrap (Int.tdiv (IntKind.u64.wrap ((IntKind.u64.wrap (x9 * 10)) + (IntKind.u64.wrap (rd x8 x11)))) x1)))) (wrap64 (x11 - 1))))) else (none)) else (none)) else (if x10 > 1000000000000000000 then (some (0, true)) else (if x1 = 0 then (none) else (stencilref02_quotient.l0 k x1 x2 x8 (Int.tmod (IntKind.u64.wrap ((IntKind.u64.wrap (x9 * 10)) + 0)) x1) (IntKind.u64.wrap ((IntKind.u64.wrap (x10 * 10)) + (IntKind.u64.wrap (Int.tdiv (IntKind.u64.wrap ((IntKind.u64.wrap (x9 * 10)) + 0)) x1)))) (wrap64 (x11 - 1)))))) else (some (x10, decide (x10 > 1000000000000000000)))
def stencilref02_quotient.f (k : Nat) (a0 : Int) (a1 : Int) (a2 : Int) : Option (Int × Bool) := (stencilref02_digits.f k a0).bind fun t357 => (stencilref02_quotient.l0 k a1 a2 t357 0 0 (wrap64 ((t357.length : Int) - 1)))
theorem stencilref02_quotient.mono_l : ∀ k, (∀ y0 y1 y2 y3 y4 y5, LeO (stencilref02_quotient.l0 k y0 y1 y2 y3 y4 y5) (stencilref02_quotient.l0 (k + 1) y0 y1 y2 y3 y4 y5))
 | 0 => fun _ _ _ _ _ _ r h => by simp [stencilref02_quotient.l0] at h
 | k + 1 => by
  have ih0 := stencilref02_quotient.mono_l k
  ·intro y0 y1 y2 y3 y4 y5
   unfold stencilref02_quotient.l0
   repeat' first
   | (with_reducible exact ih0 _ _ _ _ _ _)
   | (with_reducible exact stencilref02_digits.mono _ _)
   | (with_reducible exact LeO.refl _)
   | (with_reducible exact LeO.none _)
   | (with_reducible refine LeO.ite ?_ ?_)
   | (with_reducible refine LeO.bind ?_ (fun _ => ?_))
   | exact ih0 _ _ _ _ _ _
   | exact stencilref02_digits.mono _ _
   | exact LeO.none _
   | refine LeO.ite ?_ ?_
   | refine LeO.bind ?_ (fun _ => ?_)
theorem stencilref02_quotient.mono : ∀ a0 a1 a2 k, LeO (stencilref02_quotient.f k a0 a1 a2) (stencilref02_quotient.f (k + 1) a0 a1 a2) := by
 intro a0 a1 a2 k
 have ih0 := stencilref02_quotient.mono_l k
 unfold stencilref02_quotient.f
 repeat' first
   | (with_reducible exact ih0 _ _ _ _ _ _)
   | (with_reducible exact stencilref02_digits.mono _ _)
   | (with_reducible exact LeO.refl _)
   | (with_reducible exact LeO.none _)
   | (with_reducible refine LeO.ite ?_ ?_)
   | (with_reducible refine LeO.bind ?_ (fun _ => ?_))
   | exact ih0 _ _ _ _ _ _
   | exact stencilref02_digits.mono _ _
   | exact LeO.none _
   | refine LeO.ite ?_ ?_
   | refine LeO.bind ?_ (fun _ => ?_)
set_option maxHeartbeats 8000000 in
set_option maxRecDepth 100000 in
theorem stencilref02_quotient.calls (k : Nat) (a0 : Int) (a1 : Int) (a2 : Int) (r1 : Int) (r2 : Bool) (w : World) (HLD : Laid w) (h : stencilref02_quotient.f k a0 a1 a2 = some (r1, r2)) :
  Calls Tryz.prog 84 #[.int .u64 a0, .int .u64 a1, .int .i64 a2] w fun e w' => e = .returned (.tuple #[.int .u64 r1, .bool r2]) ∧ Below w.heap.size w w' := by
 have HB := Aside0.mk (Below.refl w.heap.size w)
 have H : ((stencilref02_digits.f k a0).bind fun t357 => (stencilref02_quotient.l0 k a1 a2 t357 0 0 (wrap64 ((t357.length : Int) - 1)))) = some (r1, r2) := h
 clear h
 replace H := Option.bind_eq_some_iff.mp H
 obtain ⟨t357, A40, H⟩ := H
 replace H : (stencilref02_quotient.l0 k a1 a2 t357 0 0 (wrap64 ((t357.length : Int) - 1))) = some (r1, r2) := H
 have A4 := Aside0.mk A40
 clear A40
 have H' := Aside0.mk H
 clear H
 go_enter Tryz.func84, Tryz.ntmps84
 go_wp2_with (first | ((with_reducible refine gate_callee (f := 80) rfl ?_); refine goesL_ (some 14) rfl rfl Tryz.func80 (by kernel_rfl) rfl #[.int .u64 a0] rfl (by (try simp only [List.map_toArray, List.map_cons, List.map_nil]); first | done | rfl | (simp only [List.length_drop, List.length_take]; rfl)) ?_; (with_reducible refine (stencilref02_digits.calls k a0 t357 _ ?side1 A4.out).mono ?_); (case side1 => first | exact HLD | exact Laid.below HLD HB.out); rintro e w5 ⟨v358, rfl, ho0, hb⟩; refine ⟨_, rfl, ?_⟩; have HO359 := Aside0.mk (Kd.R_lower ho0 (below_size HB.out)); replace HB := zs HB hb; (try clear hb); (try clear hb2); (try clear hk); (try clear hi); (try clear ho0); obtain ⟨Ao6, co6, eo6⟩ := Kd.R_slice HO359.out; subst eo6))
 go_loopg [9, 10, 11] k (fun kq v9 v10 v11 w' => ∃ (x9_1 : Int) (x10_1 : Int) (x11_1 : Int), v9 = .int .u64 x9_1 ∧ v10 = .int .u64 x10_1 ∧ v11 = .int .i64 x11_1 ∧ Aside0 (stencilref02_quotient.l0 kq a1 a2 t357 x9_1 x10_1 x11_1 = some (r1, r2)) ∧ Aside0 (kq ≤ k) ∧ Aside0 (Kd.R (Kd.int .i64) 3 w' w.heap.size (fun _ => True) (.slice Ao6 t357.length co6) t357) ∧ Aside0 (Below w.heap.size w w'))
 case atStart => exact ⟨(0), (0), (wrap64 ((t357.length : Int) - 1)), (by first | rfl | (simp; done) | (simp [*]; done)), (by first | rfl | (simp; done) | (simp [*]; done)), (by first | rfl | (simp; done) | (simp [*]; done)), H', ⟨Nat.le_refl _⟩, ⟨by (with_reducible repeat (first | apply Kd.R_alloc | apply Kd.R_drewN | apply Kd.R_drew)); exact HO359.out⟩, ⟨by repeat (first | (with_reducible first | exact HB.out | apply below_alloc | apply pw_below_drewN | apply below_drew1) | exact HB.out)⟩⟩
 case round =>
  clear H'
  try clear p2; try clear p6
  obtain ⟨x9_1, x10_1, x11_1, rfl, rfl, rfl, HA, HK1, HO_8, HB⟩ := hrel
  cases gk with
  | zero => exact absurd HA.out (by simp [stencilref02_quotient.l0])
  | succ k1 =>
   have H := HA.out
   clear HA
   simp only [stencilref02_quotient.l0] at H
   by_cases c7 : x11_1 ≥ (wrap64 (-a2))
   ·rw [if_pos c7] at H
    have c7b0 : decide ((wrap64 (-a2)) ≤ x11_1) = true := decide_eq_true c7
    clear c7
    by_cases c8 : x11_1 ≥ 0
    ·rw [if_pos c8] at H
     have c8b0 : decide (0 ≤ x11_1) = true := decide_eq_true c8
     clear c8
     by_cases c9 : 0 ≤ x11_1
     ·rw [if_pos c9] at H
      have c9b0 : decide (0 ≤ x11_1) = true := decide_eq_true c9
      clear c9
      by_cases c10 : x11_1 < (t357.length : Int)
      ·rw [if_pos c10] at H
       have c10b0 : decide (x11_1 < (t357.length : Int)) = true := decide_eq_true c10
       clear c10
       by_cases c11 : x10_1 > 1000000000000000000
       ·rw [if_pos c11] at H
        have c11b0 : decide (1000000000000000000 < x10_1) = true := decide_eq_true c11
        clear c11
        simp only [Option.some.injEq, Prod.mk.injEq] at H
        obtain ⟨rfl, rfl⟩ := H
        have p360 : 0 ≤ (x11_1 : Int) := of_decide_eq_true (by first | (with_reducible assumption) | assumption)
        have q360 : x11_1 < (t357.length : Int) := of_decide_eq_true (by first | (with_reducible assumption) | assumption)
        obtain ⟨ad360, e360, hx360_0⟩ := Kd.at_int (Kd.R_reads' HO_8.out).2.2 x11_1 p360 q360
        cases e360
        replace p360 := eq_true p360
        replace q360 := eq_true q360
        go_wp2
        go_ret2
        exact ⟨rfl, by repeat (first | (with_reducible first | exact HB.out | apply below_alloc | apply pw_below_drewN | apply below_drew1) | exact HB.out)⟩
       ·rw [if_neg c11] at H
        have c11b0 : decide (1000000000000000000 < x10_1) = false := decide_eq_false c11
        clear c11
        by_cases c12 : a1 = 0
        ·rw [if_pos c12] at H
         exact absurd H (by simp)
        ·rw [if_neg c12] at H
         have c12b0 : (a1 == 0) = false := beq_eq_false_iff_ne.mpr c12
         have c12b1 : (a1 != 0) = true := bne_iff_ne.mpr c12
         have H' := Aside0.mk H
         clear H
         have p360 : 0 ≤ (x11_1 : Int) := of_decide_eq_true (by first | (with_reducible assumption) | assumption)
         have q360 : x11_1 < (t357.length : Int) := of_decide_eq_true (by first | (with_reducible assumption) | assumption)
         obtain ⟨ad360, e360, hx360_0⟩ := Kd.at_int (Kd.R_reads' HO_8.out).2.2 x11_1 p360 q360
         cases e360
         replace p360 := eq_true p360
         replace q360 := eq_true q360
         go_wp2
         go_roundg k1
         case measure => have := HK1.out; omega
         case rel => exact ⟨(Int.tmod (IntKind.u64.wrap ((IntKind.u64.wrap (x9_1 * 10)) + (IntKind.u64.wrap (rd t357 x11_1)))) a1), (IntKind.u64.wrap ((IntKind.u64.wrap (x10_1 * 10)) + (IntKind.u64.wrap (Int.tdiv (IntKind.u64.wrap ((IntKind.u64.wrap (x9_1 * 10)) + (IntKind.u64.wrap (rd t357 x11_1)))) a1)))), (wrap64 (x11_1 - 1)), (by first | rfl | (simp; done) | (simp [*]; done)), (by first | rfl | (simp; done) | (simp [*]; done)), (by first | rfl | (simp; done) | (simp [*]; done)), H', ⟨by have := HK1.out; omega⟩, ⟨by (with_reducible repeat (first | apply Kd.R_alloc | apply Kd.R_drewN | apply Kd.R_drew)); exact HO_8.out⟩, ⟨by repeat (first | (with_reducible first | exact HB.out | apply below_alloc | apply pw_below_drewN | apply below_drew1) | exact HB.out)⟩⟩
      ·rw [if_neg c10] at H
       exact absurd H (by simp)
     ·rw [if_neg c9] at H
      exact absurd H (by simp)
    ·rw [if_neg c8] at H
     have c8b0 : decide (0 ≤ x11_1) = false := decide_eq_false c8
     clear c8
     by_cases c13 : x10_1 > 1000000000000000000
     ·rw [if_pos c13] at H
      have c13b0 : decide (1000000000000000000 < x10_1) = true := decide_eq_true c13
      clear c13
      simp only [Option.some.injEq, Prod.mk.injEq] at H
      obtain ⟨rfl, rfl⟩ := H
      go_wp2
      go_ret2
      exact ⟨rfl, by repeat (first | (with_reducible first | exact HB.out | apply below_alloc | apply pw_below_drewN | apply below_drew1) | exact HB.out)⟩
     ·rw [if_neg c13] at H
      have c13b0 : decide (1000000000000000000 < x10_1) = false := decide_eq_false c13
      clear c13
      by_cases c14 : a1 = 0
      ·rw [if_pos c14] at H
       exact absurd H (by simp)
      ·rw [if_neg c14] at H
       have c14b0 : (a1 == 0) = false := beq_eq_false_iff_ne.mpr c14
       have c14b1 : (a1 != 0) = true := bne_iff_ne.mpr c14
       have H' := Aside0.mk H
       clear H
       go_wp2
       go_roundg k1
       case measure => have := HK1.out; omega
       case rel => exact ⟨(Int.tmod (IntKind.u64.wrap ((IntKind.u64.wrap (x9_1 * 10)) + 0)) a1), (IntKind.u64.wrap ((IntKind.u64.wrap (x10_1 * 10)) + (IntKind.u64.wrap (Int.tdiv (IntKind.u64.wrap ((IntKind.u64.wrap (x9_1 * 10)) + 0)) a1)))), (wrap64 (x11_1 - 1)), (by first | rfl | (simp; done) | (simp [*]; done)), (by first | rfl | (simp; done) | (simp [*]; done)), (by first | rfl | (simp; done) | (simp [*]; done)), H', ⟨by have := HK1.out; omega⟩, ⟨by (with_reducible repeat (first | apply Kd.R_alloc | apply Kd.R_drewN | apply Kd.R_drew)); exact HO_8.out⟩, ⟨by repeat (first | (with_reducible first | exact HB.out | apply below_alloc | apply pw_below_drewN | apply below_drew1) | exact HB.out)⟩⟩
   ·rw [if_neg c7] at H
    have c7b0 : decide ((wrap64 (-a2)) ≤ x11_1) = false := decide_eq_false c7
    clear c7
    simp only [Option.some.injEq, Prod.mk.injEq] at H
    obtain ⟨rfl, rfl⟩ := H
    go_wp2
    go_ret2
    exact ⟨rfl, by repeat (first | (with_reducible first | exact HB.out | apply below_alloc | apply pw_below_drewN | apply below_drew1) | exact HB.out)⟩

end Go.Proofs.YtfbmojnndbbojaaGreatDoor.Print

-- THIN
