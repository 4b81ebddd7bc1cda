-- Laid by xprint.py (ours), out of the seat's translation; Lean checks it.
import Derived.Test.YtinefoocajnhmaaDoorPrint0
import Derived.Test.YtinefoocajnhmaaDoorPrintlibindex
import Derived.Test.YtinefoocajnhmaaDoorPrintxplexscan
namespace Go.Proofs.YtinefoocajnhmaaDoor.Print
open Go.RowKit Go.Proofs.YtinefoocajnhmaaDoorW.PrintWords Go.Proofs.YtinefoocajnhmaaDoorW.PrintLast Go.Proofs.YtinefoocajnhmaaDoorW.PrintMore
attribute [local go_sem] max2_int min2_int max_two min_two max_three min_three max_four min_four   -- for this text's walks alone
open Go.Proofs.YtinefoocajnhmaaDoor.Plain
set_option linter.unusedVariables false
set_option linter.unusedSimpArgs false

/-! ### stencillaw05_live: function 19 -/
def stencillaw05_live.f  : Option (Bool) := (xplex_Scan.f (⟨#[42, 32, 42, 32, 42, 32, 100, 105, 118, 32, 116, 101, 120, 116, 32, 40, 32, 41]⟩ : ByteArray)).bind fun bt111 => (if bt111.2.1 = 0 then (if (bt111.1.length : Int) = 7 then (if 0 < (bt111.1.length : Int) then (if ((rd_T30 bt111.1 0).f0) = 3 then (if 1 < (bt111.1.length : Int) then (if ((rd_T30 bt111.1 1).f0) = 8 then (if 2 < (bt111.1.length : Int) then (if ((rd_T30 bt111.1 2).f0) = 3 then (if 3 < (bt111.1.length : Int) then (if ((rd_T30 bt111.1 3).f0) = 8 then (if 4 < (bt111.1.length : Int) then (some (((rd_T30 bt111.1 4).f0) == 5)) else (none)) else (some false)) else (none)) else (some false)) else (none)) else (some false)) else (none)) else (some false)) else (none)) else (some false)) else (some false))
set_option maxHeartbeats 8000000 in
set_option maxRecDepth 100000 in
theorem stencillaw05_live.calls  (r : Bool) (w : World) (HLD : Laid w) (h : stencillaw05_live.f  = some r) :
    Calls Tryd.prog 19 #[] w fun e w' => e = .returned (.bool r) ∧ Below w.heap.size w w' := by
  have HB := Aside0.mk (Below.refl w.heap.size w)
  have H : ((xplex_Scan.f (⟨#[42, 32, 42, 32, 42, 32, 100, 105, 118, 32, 116, 101, 120, 116, 32, 40, 32, 41]⟩ : ByteArray)).bind fun bt111 => (if bt111.2.1 = 0 then (if (bt111.1.length : Int) = 7 then (if 0 < (bt111.1.length : Int) then (if ((rd_T30 bt111.1 0).f0) = 3 then (if 1 < (bt111.1.length : Int) then (if ((rd_T30 bt111.1 1).f0) = 8 then (if 2 < (bt111.1.length : Int) then (if ((rd_T30 bt111.1 2).f0) = 3 then (if 3 < (bt111.1.length : Int) then (if ((rd_T30 bt111.1 3).f0) = 8 then (if 4 < (bt111.1.length : Int) then (some (((rd_T30 bt111.1 4).f0) == 5)) else (none)) else (some false)) else (none)) else (some false)) else (none)) else (some false)) else (none)) else (some false)) else (none)) else (some false)) else (some false))) = some r := h
  clear h
  replace H := Option.bind_eq_some_iff.mp H
  obtain ⟨⟨t111, t112, t113⟩, A10, H⟩ := H
  replace H : (if t112 = 0 then (if (t111.length : Int) = 7 then (if 0 < (t111.length : Int) then (if ((rd_T30 t111 0).f0) = 3 then (if 1 < (t111.length : Int) then (if ((rd_T30 t111 1).f0) = 8 then (if 2 < (t111.length : Int) then (if ((rd_T30 t111 2).f0) = 3 then (if 3 < (t111.length : Int) then (if ((rd_T30 t111 3).f0) = 8 then (if 4 < (t111.length : Int) then (some (((rd_T30 t111 4).f0) == 5)) else (none)) else (some false)) else (none)) else (some false)) else (none)) else (some false)) else (none)) else (some false)) else (none)) else (some false)) else (some false)) = some r := H
  have A1 := Aside0.mk A10
  clear A10
  by_cases c2 : t112 = 0
  · rw [if_pos c2] at H
    have c2b0 : (t112 == 0) = true := beq_iff_eq.mpr c2
    have c2b1 : (t112 != 0) = false := bne_eq_false_iff_eq.mpr c2
    clear c2
    by_cases c3 : (t111.length : Int) = 7
    · rw [if_pos c3] at H
      have c3b0 : ((t111.length : Int) == 7) = true := beq_iff_eq.mpr c3
      have c3b1 : ((t111.length : Int) != 7) = false := bne_eq_false_iff_eq.mpr c3
      clear c3
      by_cases c4 : 0 < (t111.length : Int)
      · rw [if_pos c4] at H
        have c4b0 : decide (0 < (t111.length : Int)) = true := decide_eq_true c4
        have c4b1 : decide (0 < t111.length) = true := decide_eq_true (by omega)
        clear c4
        by_cases c5 : ((rd_T30 t111 0).f0) = 3
        · rw [if_pos c5] at H
          have c5b0 : (((rd_T30 t111 0).f0) == 3) = true := beq_iff_eq.mpr c5
          have c5b1 : (((rd_T30 t111 0).f0) != 3) = false := bne_eq_false_iff_eq.mpr c5
          clear c5
          by_cases c6 : 1 < (t111.length : Int)
          · rw [if_pos c6] at H
            have c6b0 : decide (1 < (t111.length : Int)) = true := decide_eq_true c6
            have c6b1 : decide (1 < t111.length) = true := decide_eq_true (by omega)
            clear c6
            by_cases c7 : ((rd_T30 t111 1).f0) = 8
            · rw [if_pos c7] at H
              have c7b0 : (((rd_T30 t111 1).f0) == 8) = true := beq_iff_eq.mpr c7
              have c7b1 : (((rd_T30 t111 1).f0) != 8) = false := bne_eq_false_iff_eq.mpr c7
              clear c7
              by_cases c8 : 2 < (t111.length : Int)
              · rw [if_pos c8] at H
                have c8b0 : decide (2 < (t111.length : Int)) = true := decide_eq_true c8
                have c8b1 : decide (2 < t111.length) = true := decide_eq_true (by omega)
                clear c8
                by_cases c9 : ((rd_T30 t111 2).f0) = 3
                · rw [if_pos c9] at H
                  have c9b0 : (((rd_T30 t111 2).f0) == 3) = true := beq_iff_eq.mpr c9
                  have c9b1 : (((rd_T30 t111 2).f0) != 3) = false := bne_eq_false_iff_eq.mpr c9
                  clear c9
                  by_cases c10 : 3 < (t111.length : Int)
                  · rw [if_pos c10] at H
                    have c10b0 : decide (3 < (t111.length : Int)) = true := decide_eq_true c10
                    have c10b1 : decide (3 < t111.length) = true := decide_eq_true (by omega)
                    clear c10
                    by_cases c11 : ((rd_T30 t111 3).f0) = 8
                    · rw [if_pos c11] at H
                      have c11b0 : (((rd_T30 t111 3).f0) == 8) = true := beq_iff_eq.mpr c11
                      have c11b1 : (((rd_T30 t111 3).f0) != 8) = false := bne_eq_false_iff_eq.mpr c11
                      clear c11
                      by_cases c12 : 4 < (t111.length : Int)
                      · rw [if_pos c12] at H
                        have c12b0 : decide (4 < (t111.length : Int)) = true := decide_eq_true c12
                        have c12b1 : decide (4 < t111.length) = true := decide_eq_true (by omega)
                        clear c12
                        obtain rfl := Option.some.inj H
                        go_enter Tryd.func19, Tryd.ntmps19
                        go_wp2_with (first | ((with_reducible refine gate_callee (f := 18) rfl ?_); refine goesL_ (some 5) rfl rfl Tryd.func18 (by kernel_rfl) rfl #[.string (⟨#[42, 32, 42, 32, 42, 32, 100, 105, 118, 32, 116, 101, 120, 116, 32, 40, 32, 41]⟩ : ByteArray)] rfl (by (try simp only [List.map_toArray, List.map_cons, List.map_nil]); first | done | rfl | (simp only [List.length_drop, List.length_take]; rfl)) ?_; (with_reducible refine (xplex_Scan.calls (⟨#[42, 32, 42, 32, 42, 32, 100, 105, 118, 32, 116, 101, 120, 116, 32, 40, 32, 41]⟩ : ByteArray) t111 t112 t113 _ ?side1 A1.out).mono ?_); (case side1 => first | exact HLD | exact Laid.below HLD (by repeat (first | (with_reducible first | exact HB.out | apply below_alloc | apply pw_below_drewN | apply below_drew1) | exact HB.out))); rintro e w13 ⟨v114, rfl, ho0, hb⟩; refine ⟨_, rfl, ?_⟩; have n0_ := Aside0.mk (Kd.R_lower ho0 (below_size (by repeat (first | (with_reducible first | exact HB.out | apply below_alloc | apply pw_below_drewN | apply below_drew1) | exact HB.out)))); have n1_ := Aside0.mk (below_step (by repeat (first | (with_reducible first | exact HB.out | apply below_alloc | apply pw_below_drewN | apply below_drew1) | exact HB.out)) hb); clear HB; have HO115 := n0_; have HB := n1_; clear n0_ n1_; (try clear hb); (try clear hb2); (try clear hk); (try clear hi); (try clear ho0); obtain ⟨Ao14, co14, eo14⟩ := Kd.R_slice HO115.out; subst eo14; have p116 : 0 ≤ (0 : Int) := (by omega); have q116 : 0 < (t111.length : Int) := of_decide_eq_true (by first | (with_reducible assumption) | assumption); obtain ⟨ad116, e116, hx116_0, hx116_1, hx116_2⟩ := at_T30 (Kd.R_reads' HO115.out).2.2 0 p116 q116; cases e116; have qi116 : (0 < t111.length) = True := eq_true (by omega); (try rw [show ((0 : Int)).toNat = 0 from rfl] at hx116_0); (try rw [show 0 * 3 = 0 from rfl] at hx116_0); (try rw [Addr.add_zero'] at hx116_0); (try rw [show ((0 : Int)).toNat = 0 from rfl] at hx116_1); (try rw [show 0 * 3 = 0 from rfl] at hx116_1); (try rw [Addr.add_zero'] at hx116_1); (try rw [show ((0 : Int)).toNat = 0 from rfl] at hx116_2); (try rw [show 0 * 3 = 0 from rfl] at hx116_2); (try rw [Addr.add_zero'] at hx116_2); replace p116 := eq_true p116; replace q116 := eq_true q116; have p117 : 0 ≤ (1 : Int) := (by omega); have q117 : 1 < (t111.length : Int) := of_decide_eq_true (by first | (with_reducible assumption) | assumption); obtain ⟨ad117, e117, hx117_0, hx117_1, hx117_2⟩ := at_T30 (Kd.R_reads' HO115.out).2.2 1 p117 q117; obtain rfl : ad116 = ad117 := (by injection e117); (try simp only [show (1 : Int).toNat = 1 from rfl, Nat.reduceMul, Nat.reduceEqDiff, Go.Addr.add, ↓reduceIte] at hx117_0); (try simp only [show (1 : Int).toNat = 1 from rfl, Nat.reduceMul, Nat.reduceEqDiff, Go.Addr.add, ↓reduceIte] at hx117_1); (try simp only [show (1 : Int).toNat = 1 from rfl, Nat.reduceMul, Nat.reduceEqDiff, Go.Addr.add, ↓reduceIte] at hx117_2); have qi117 : (1 < t111.length) = True := eq_true (by omega); (try rw [show ((1 : Int)).toNat = 1 from rfl] at hx117_0); (try rw [show 1 * 3 = 3 from rfl] at hx117_0); (try rw [show ((1 : Int)).toNat = 1 from rfl] at hx117_1); (try rw [show 1 * 3 = 3 from rfl] at hx117_1); (try rw [show ((1 : Int)).toNat = 1 from rfl] at hx117_2); (try rw [show 1 * 3 = 3 from rfl] at hx117_2); replace p117 := eq_true p117; replace q117 := eq_true q117; have p118 : 0 ≤ (2 : Int) := (by omega); have q118 : 2 < (t111.length : Int) := of_decide_eq_true (by first | (with_reducible assumption) | assumption); obtain ⟨ad118, e118, hx118_0, hx118_1, hx118_2⟩ := at_T30 (Kd.R_reads' HO115.out).2.2 2 p118 q118; obtain rfl : ad116 = ad118 := (by injection e118); (try simp only [show (2 : Int).toNat = 2 from rfl, Nat.reduceMul, Nat.reduceEqDiff, Go.Addr.add, ↓reduceIte] at hx118_0); (try simp only [show (2 : Int).toNat = 2 from rfl, Nat.reduceMul, Nat.reduceEqDiff, Go.Addr.add, ↓reduceIte] at hx118_1); (try simp only [show (2 : Int).toNat = 2 from rfl, Nat.reduceMul, Nat.reduceEqDiff, Go.Addr.add, ↓reduceIte] at hx118_2); have qi118 : (2 < t111.length) = True := eq_true (by omega); (try rw [show ((2 : Int)).toNat = 2 from rfl] at hx118_0); (try rw [show 2 * 3 = 6 from rfl] at hx118_0); (try rw [show ((2 : Int)).toNat = 2 from rfl] at hx118_1); (try rw [show 2 * 3 = 6 from rfl] at hx118_1); (try rw [show ((2 : Int)).toNat = 2 from rfl] at hx118_2); (try rw [show 2 * 3 = 6 from rfl] at hx118_2); replace p118 := eq_true p118; replace q118 := eq_true q118; have p119 : 0 ≤ (3 : Int) := (by omega); have q119 : 3 < (t111.length : Int) := of_decide_eq_true (by first | (with_reducible assumption) | assumption); obtain ⟨ad119, e119, hx119_0, hx119_1, hx119_2⟩ := at_T30 (Kd.R_reads' HO115.out).2.2 3 p119 q119; obtain rfl : ad116 = ad119 := (by injection e119); (try simp only [show (3 : Int).toNat = 3 from rfl, Nat.reduceMul, Nat.reduceEqDiff, Go.Addr.add, ↓reduceIte] at hx119_0); (try simp only [show (3 : Int).toNat = 3 from rfl, Nat.reduceMul, Nat.reduceEqDiff, Go.Addr.add, ↓reduceIte] at hx119_1); (try simp only [show (3 : Int).toNat = 3 from rfl, Nat.reduceMul, Nat.reduceEqDiff, Go.Addr.add, ↓reduceIte] at hx119_2); have qi119 : (3 < t111.length) = True := eq_true (by omega); (try rw [show ((3 : Int)).toNat = 3 from rfl] at hx119_0); (try rw [show 3 * 3 = 9 from rfl] at hx119_0); (try rw [show ((3 : Int)).toNat = 3 from rfl] at hx119_1); (try rw [show 3 * 3 = 9 from rfl] at hx119_1); (try rw [show ((3 : Int)).toNat = 3 from rfl] at hx119_2); (try rw [show 3 * 3 = 9 from rfl] at hx119_2); replace p119 := eq_true p119; replace q119 := eq_true q119; have p120 : 0 ≤ (4 : Int) := (by omega); have q120 : 4 < (t111.length : Int) := of_decide_eq_true (by first | (with_reducible assumption) | assumption); obtain ⟨ad120, e120, hx120_0, hx120_1, hx120_2⟩ := at_T30 (Kd.R_reads' HO115.out).2.2 4 p120 q120; obtain rfl : ad116 = ad120 := (by injection e120); (try simp only [show (4 : Int).toNat = 4 from rfl, Nat.reduceMul, Nat.reduceEqDiff, Go.Addr.add, ↓reduceIte] at hx120_0); (try simp only [show (4 : Int).toNat = 4 from rfl, Nat.reduceMul, Nat.reduceEqDiff, Go.Addr.add, ↓reduceIte] at hx120_1); (try simp only [show (4 : Int).toNat = 4 from rfl, Nat.reduceMul, Nat.reduceEqDiff, Go.Addr.add, ↓reduceIte] at hx120_2); have qi120 : (4 < t111.length) = True := eq_true (by omega); (try rw [show ((4 : Int)).toNat = 4 from rfl] at hx120_0); (try rw [show 4 * 3 = 12 from rfl] at hx120_0); (try rw [show ((4 : Int)).toNat = 4 from rfl] at hx120_1); (try rw [show 4 * 3 = 12 from rfl] at hx120_1); (try rw [show ((4 : Int)).toNat = 4 from rfl] at hx120_2); (try rw [show 4 * 3 = 12 from rfl] at hx120_2); replace p120 := eq_true p120; replace q120 := eq_true q120))
                        go_ret
                        exact ⟨by first | rfl | (simp [errW_none, errW_some] <;> rfl) | (simp [*, errW_none, errW_some] <;> rfl), by repeat (first | (with_reducible first | exact HB.out | apply below_alloc | apply pw_below_drewN | apply below_drew1) | exact HB.out)⟩
                      · rw [if_neg c12] at H
                        exact absurd H (by simp)
                    · rw [if_neg c11] at H
                      have c11b0 : (((rd_T30 t111 3).f0) == 8) = false := beq_eq_false_iff_ne.mpr c11
                      have c11b1 : (((rd_T30 t111 3).f0) != 8) = true := bne_iff_ne.mpr c11
                      obtain rfl := Option.some.inj H
                      go_enter Tryd.func19, Tryd.ntmps19
                      go_wp2_with (first | ((with_reducible refine gate_callee (f := 18) rfl ?_); refine goesL_ (some 5) rfl rfl Tryd.func18 (by kernel_rfl) rfl #[.string (⟨#[42, 32, 42, 32, 42, 32, 100, 105, 118, 32, 116, 101, 120, 116, 32, 40, 32, 41]⟩ : ByteArray)] rfl (by (try simp only [List.map_toArray, List.map_cons, List.map_nil]); first | done | rfl | (simp only [List.length_drop, List.length_take]; rfl)) ?_; (with_reducible refine (xplex_Scan.calls (⟨#[42, 32, 42, 32, 42, 32, 100, 105, 118, 32, 116, 101, 120, 116, 32, 40, 32, 41]⟩ : ByteArray) t111 t112 t113 _ ?side1 A1.out).mono ?_); (case side1 => first | exact HLD | exact Laid.below HLD (by repeat (first | (with_reducible first | exact HB.out | apply below_alloc | apply pw_below_drewN | apply below_drew1) | exact HB.out))); rintro e w15 ⟨v114, rfl, ho0, hb⟩; refine ⟨_, rfl, ?_⟩; have n0_ := Aside0.mk (Kd.R_lower ho0 (below_size (by repeat (first | (with_reducible first | exact HB.out | apply below_alloc | apply pw_below_drewN | apply below_drew1) | exact HB.out)))); have n1_ := Aside0.mk (below_step (by repeat (first | (with_reducible first | exact HB.out | apply below_alloc | apply pw_below_drewN | apply below_drew1) | exact HB.out)) hb); clear HB; have HO115 := n0_; have HB := n1_; clear n0_ n1_; (try clear hb); (try clear hb2); (try clear hk); (try clear hi); (try clear ho0); obtain ⟨Ao16, co16, eo16⟩ := Kd.R_slice HO115.out; subst eo16; have p116 : 0 ≤ (0 : Int) := (by omega); have q116 : 0 < (t111.length : Int) := of_decide_eq_true (by first | (with_reducible assumption) | assumption); obtain ⟨ad116, e116, hx116_0, hx116_1, hx116_2⟩ := at_T30 (Kd.R_reads' HO115.out).2.2 0 p116 q116; cases e116; have qi116 : (0 < t111.length) = True := eq_true (by omega); (try rw [show ((0 : Int)).toNat = 0 from rfl] at hx116_0); (try rw [show 0 * 3 = 0 from rfl] at hx116_0); (try rw [Addr.add_zero'] at hx116_0); (try rw [show ((0 : Int)).toNat = 0 from rfl] at hx116_1); (try rw [show 0 * 3 = 0 from rfl] at hx116_1); (try rw [Addr.add_zero'] at hx116_1); (try rw [show ((0 : Int)).toNat = 0 from rfl] at hx116_2); (try rw [show 0 * 3 = 0 from rfl] at hx116_2); (try rw [Addr.add_zero'] at hx116_2); replace p116 := eq_true p116; replace q116 := eq_true q116; have p117 : 0 ≤ (1 : Int) := (by omega); have q117 : 1 < (t111.length : Int) := of_decide_eq_true (by first | (with_reducible assumption) | assumption); obtain ⟨ad117, e117, hx117_0, hx117_1, hx117_2⟩ := at_T30 (Kd.R_reads' HO115.out).2.2 1 p117 q117; obtain rfl : ad116 = ad117 := (by injection e117); (try simp only [show (1 : Int).toNat = 1 from rfl, Nat.reduceMul, Nat.reduceEqDiff, Go.Addr.add, ↓reduceIte] at hx117_0); (try simp only [show (1 : Int).toNat = 1 from rfl, Nat.reduceMul, Nat.reduceEqDiff, Go.Addr.add, ↓reduceIte] at hx117_1); (try simp only [show (1 : Int).toNat = 1 from rfl, Nat.reduceMul, Nat.reduceEqDiff, Go.Addr.add, ↓reduceIte] at hx117_2); have qi117 : (1 < t111.length) = True := eq_true (by omega); (try rw [show ((1 : Int)).toNat = 1 from rfl] at hx117_0); (try rw [show 1 * 3 = 3 from rfl] at hx117_0); (try rw [show ((1 : Int)).toNat = 1 from rfl] at hx117_1); (try rw [show 1 * 3 = 3 from rfl] at hx117_1); (try rw [show ((1 : Int)).toNat = 1 from rfl] at hx117_2); (try rw [show 1 * 3 = 3 from rfl] at hx117_2); replace p117 := eq_true p117; replace q117 := eq_true q117; have p118 : 0 ≤ (2 : Int) := (by omega); have q118 : 2 < (t111.length : Int) := of_decide_eq_true (by first | (with_reducible assumption) | assumption); obtain ⟨ad118, e118, hx118_0, hx118_1, hx118_2⟩ := at_T30 (Kd.R_reads' HO115.out).2.2 2 p118 q118; obtain rfl : ad116 = ad118 := (by injection e118); (try simp only [show (2 : Int).toNat = 2 from rfl, Nat.reduceMul, Nat.reduceEqDiff, Go.Addr.add, ↓reduceIte] at hx118_0); (try simp only [show (2 : Int).toNat = 2 from rfl, Nat.reduceMul, Nat.reduceEqDiff, Go.Addr.add, ↓reduceIte] at hx118_1); (try simp only [show (2 : Int).toNat = 2 from rfl, Nat.reduceMul, Nat.reduceEqDiff, Go.Addr.add, ↓reduceIte] at hx118_2); have qi118 : (2 < t111.length) = True := eq_true (by omega); (try rw [show ((2 : Int)).toNat = 2 from rfl] at hx118_0); (try rw [show 2 * 3 = 6 from rfl] at hx118_0); (try rw [show ((2 : Int)).toNat = 2 from rfl] at hx118_1); (try rw [show 2 * 3 = 6 from rfl] at hx118_1); (try rw [show ((2 : Int)).toNat = 2 from rfl] at hx118_2); (try rw [show 2 * 3 = 6 from rfl] at hx118_2); replace p118 := eq_true p118; replace q118 := eq_true q118; have p119 : 0 ≤ (3 : Int) := (by omega); have q119 : 3 < (t111.length : Int) := of_decide_eq_true (by first | (with_reducible assumption) | assumption); obtain ⟨ad119, e119, hx119_0, hx119_1, hx119_2⟩ := at_T30 (Kd.R_reads' HO115.out).2.2 3 p119 q119; obtain rfl : ad116 = ad119 := (by injection e119); (try simp only [show (3 : Int).toNat = 3 from rfl, Nat.reduceMul, Nat.reduceEqDiff, Go.Addr.add, ↓reduceIte] at hx119_0); (try simp only [show (3 : Int).toNat = 3 from rfl, Nat.reduceMul, Nat.reduceEqDiff, Go.Addr.add, ↓reduceIte] at hx119_1); (try simp only [show (3 : Int).toNat = 3 from rfl, Nat.reduceMul, Nat.reduceEqDiff, Go.Addr.add, ↓reduceIte] at hx119_2); have qi119 : (3 < t111.length) = True := eq_true (by omega); (try rw [show ((3 : Int)).toNat = 3 from rfl] at hx119_0); (try rw [show 3 * 3 = 9 from rfl] at hx119_0); (try rw [show ((3 : Int)).toNat = 3 from rfl] at hx119_1); (try rw [show 3 * 3 = 9 from rfl] at hx119_1); (try rw [show ((3 : Int)).toNat = 3 from rfl] at hx119_2); (try rw [show 3 * 3 = 9 from rfl] at hx119_2); replace p119 := eq_true p119; replace q119 := eq_true q119))
                      go_ret
                      exact ⟨by first | rfl | (simp [errW_none, errW_some] <;> rfl) | (simp [*, errW_none, errW_some] <;> rfl), by repeat (first | (with_reducible first | exact HB.out | apply below_alloc | apply pw_below_drewN | apply below_drew1) | exact HB.out)⟩
                  · rw [if_neg c10] at H
                    exact absurd H (by simp)
                · rw [if_neg c9] at H
                  have c9b0 : (((rd_T30 t111 2).f0) == 3) = false := beq_eq_false_iff_ne.mpr c9
                  have c9b1 : (((rd_T30 t111 2).f0) != 3) = true := bne_iff_ne.mpr c9
                  obtain rfl := Option.some.inj H
                  go_enter Tryd.func19, Tryd.ntmps19
                  go_wp2_with (first | ((with_reducible refine gate_callee (f := 18) rfl ?_); refine goesL_ (some 5) rfl rfl Tryd.func18 (by kernel_rfl) rfl #[.string (⟨#[42, 32, 42, 32, 42, 32, 100, 105, 118, 32, 116, 101, 120, 116, 32, 40, 32, 41]⟩ : ByteArray)] rfl (by (try simp only [List.map_toArray, List.map_cons, List.map_nil]); first | done | rfl | (simp only [List.length_drop, List.length_take]; rfl)) ?_; (with_reducible refine (xplex_Scan.calls (⟨#[42, 32, 42, 32, 42, 32, 100, 105, 118, 32, 116, 101, 120, 116, 32, 40, 32, 41]⟩ : ByteArray) t111 t112 t113 _ ?side1 A1.out).mono ?_); (case side1 => first | exact HLD | exact Laid.below HLD (by repeat (first | (with_reducible first | exact HB.out | apply below_alloc | apply pw_below_drewN | apply below_drew1) | exact HB.out))); rintro e w17 ⟨v114, rfl, ho0, hb⟩; refine ⟨_, rfl, ?_⟩; have n0_ := Aside0.mk (Kd.R_lower ho0 (below_size (by repeat (first | (with_reducible first | exact HB.out | apply below_alloc | apply pw_below_drewN | apply below_drew1) | exact HB.out)))); have n1_ := Aside0.mk (below_step (by repeat (first | (with_reducible first | exact HB.out | apply below_alloc | apply pw_below_drewN | apply below_drew1) | exact HB.out)) hb); clear HB; have HO115 := n0_; have HB := n1_; clear n0_ n1_; (try clear hb); (try clear hb2); (try clear hk); (try clear hi); (try clear ho0); obtain ⟨Ao18, co18, eo18⟩ := Kd.R_slice HO115.out; subst eo18; have p116 : 0 ≤ (0 : Int) := (by omega); have q116 : 0 < (t111.length : Int) := of_decide_eq_true (by first | (with_reducible assumption) | assumption); obtain ⟨ad116, e116, hx116_0, hx116_1, hx116_2⟩ := at_T30 (Kd.R_reads' HO115.out).2.2 0 p116 q116; cases e116; have qi116 : (0 < t111.length) = True := eq_true (by omega); (try rw [show ((0 : Int)).toNat = 0 from rfl] at hx116_0); (try rw [show 0 * 3 = 0 from rfl] at hx116_0); (try rw [Addr.add_zero'] at hx116_0); (try rw [show ((0 : Int)).toNat = 0 from rfl] at hx116_1); (try rw [show 0 * 3 = 0 from rfl] at hx116_1); (try rw [Addr.add_zero'] at hx116_1); (try rw [show ((0 : Int)).toNat = 0 from rfl] at hx116_2); (try rw [show 0 * 3 = 0 from rfl] at hx116_2); (try rw [Addr.add_zero'] at hx116_2); replace p116 := eq_true p116; replace q116 := eq_true q116; have p117 : 0 ≤ (1 : Int) := (by omega); have q117 : 1 < (t111.length : Int) := of_decide_eq_true (by first | (with_reducible assumption) | assumption); obtain ⟨ad117, e117, hx117_0, hx117_1, hx117_2⟩ := at_T30 (Kd.R_reads' HO115.out).2.2 1 p117 q117; obtain rfl : ad116 = ad117 := (by injection e117); (try simp only [show (1 : Int).toNat = 1 from rfl, Nat.reduceMul, Nat.reduceEqDiff, Go.Addr.add, ↓reduceIte] at hx117_0); (try simp only [show (1 : Int).toNat = 1 from rfl, Nat.reduceMul, Nat.reduceEqDiff, Go.Addr.add, ↓reduceIte] at hx117_1); (try simp only [show (1 : Int).toNat = 1 from rfl, Nat.reduceMul, Nat.reduceEqDiff, Go.Addr.add, ↓reduceIte] at hx117_2); have qi117 : (1 < t111.length) = True := eq_true (by omega); (try rw [show ((1 : Int)).toNat = 1 from rfl] at hx117_0); (try rw [show 1 * 3 = 3 from rfl] at hx117_0); (try rw [show ((1 : Int)).toNat = 1 from rfl] at hx117_1); (try rw [show 1 * 3 = 3 from rfl] at hx117_1); (try rw [show ((1 : Int)).toNat = 1 from rfl] at hx117_2); (try rw [show 1 * 3 = 3 from rfl] at hx117_2); replace p117 := eq_true p117; replace q117 := eq_true q117; have p118 : 0 ≤ (2 : Int) := (by omega); have q118 : 2 < (t111.length : Int) := of_decide_eq_true (by first | (with_reducible assumption) | assumption); obtain ⟨ad118, e118, hx118_0, hx118_1, hx118_2⟩ := at_T30 (Kd.R_reads' HO115.out).2.2 2 p118 q118; obtain rfl : ad116 = ad118 := (by injection e118); (try simp only [show (2 : Int).toNat = 2 from rfl, Nat.reduceMul, Nat.reduceEqDiff, Go.Addr.add, ↓reduceIte] at hx118_0); (try simp only [show (2 : Int).toNat = 2 from rfl, Nat.reduceMul, Nat.reduceEqDiff, Go.Addr.add, ↓reduceIte] at hx118_1); (try simp only [show (2 : Int).toNat = 2 from rfl, Nat.reduceMul, Nat.reduceEqDiff, Go.Addr.add, ↓reduceIte] at hx118_2); have qi118 : (2 < t111.length) = True := eq_true (by omega); (try rw [show ((2 : Int)).toNat = 2 from rfl] at hx118_0); (try rw [show 2 * 3 = 6 from rfl] at hx118_0); (try rw [show ((2 : Int)).toNat = 2 from rfl] at hx118_1); (try rw [show 2 * 3 = 6 from rfl] at hx118_1); (try rw [show ((2 : Int)).toNat = 2 from rfl] at hx118_2); (try rw [show 2 * 3 = 6 from rfl] at hx118_2); replace p118 := eq_true p118; replace q118 := eq_true q118))
                  go_ret
                  exact ⟨by first | rfl | (simp [errW_none, errW_some] <;> rfl) | (simp [*, errW_none, errW_some] <;> rfl), by repeat (first | (with_reducible first | exact HB.out | apply below_alloc | apply pw_below_drewN | apply below_drew1) | exact HB.out)⟩
              · rw [if_neg c8] at H
                exact absurd H (by simp)
            · rw [if_neg c7] at H
              have c7b0 : (((rd_T30 t111 1).f0) == 8) = false := beq_eq_false_iff_ne.mpr c7
              have c7b1 : (((rd_T30 t111 1).f0) != 8) = true := bne_iff_ne.mpr c7
              obtain rfl := Option.some.inj H
              go_enter Tryd.func19, Tryd.ntmps19
              go_wp2_with (first | ((with_reducible refine gate_callee (f := 18) rfl ?_); refine goesL_ (some 5) rfl rfl Tryd.func18 (by kernel_rfl) rfl #[.string (⟨#[42, 32, 42, 32, 42, 32, 100, 105, 118, 32, 116, 101, 120, 116, 32, 40, 32, 41]⟩ : ByteArray)] rfl (by (try simp only [List.map_toArray, List.map_cons, List.map_nil]); first | done | rfl | (simp only [List.length_drop, List.length_take]; rfl)) ?_; (with_reducible refine (xplex_Scan.calls (⟨#[42, 32, 42, 32, 42, 32, 100, 105, 118, 32, 116, 101, 120, 116, 32, 40, 32, 41]⟩ : ByteArray) t111 t112 t113 _ ?side1 A1.out).mono ?_); (case side1 => first | exact HLD | exact Laid.below HLD (by repeat (first | (with_reducible first | exact HB.out | apply below_alloc | apply pw_below_drewN | apply below_drew1) | exact HB.out))); rintro e w19 ⟨v114, rfl, ho0, hb⟩; refine ⟨_, rfl, ?_⟩; have n0_ := Aside0.mk (Kd.R_lower ho0 (below_size (by repeat (first | (with_reducible first | exact HB.out | apply below_alloc | apply pw_below_drewN | apply below_drew1) | exact HB.out)))); have n1_ := Aside0.mk (below_step (by repeat (first | (with_reducible first | exact HB.out | apply below_alloc | apply pw_below_drewN | apply below_drew1) | exact HB.out)) hb); clear HB; have HO115 := n0_; have HB := n1_; clear n0_ n1_; (try clear hb); (try clear hb2); (try clear hk); (try clear hi); (try clear ho0); obtain ⟨Ao20, co20, eo20⟩ := Kd.R_slice HO115.out; subst eo20; have p116 : 0 ≤ (0 : Int) := (by omega); have q116 : 0 < (t111.length : Int) := of_decide_eq_true (by first | (with_reducible assumption) | assumption); obtain ⟨ad116, e116, hx116_0, hx116_1, hx116_2⟩ := at_T30 (Kd.R_reads' HO115.out).2.2 0 p116 q116; cases e116; have qi116 : (0 < t111.length) = True := eq_true (by omega); (try rw [show ((0 : Int)).toNat = 0 from rfl] at hx116_0); (try rw [show 0 * 3 = 0 from rfl] at hx116_0); (try rw [Addr.add_zero'] at hx116_0); (try rw [show ((0 : Int)).toNat = 0 from rfl] at hx116_1); (try rw [show 0 * 3 = 0 from rfl] at hx116_1); (try rw [Addr.add_zero'] at hx116_1); (try rw [show ((0 : Int)).toNat = 0 from rfl] at hx116_2); (try rw [show 0 * 3 = 0 from rfl] at hx116_2); (try rw [Addr.add_zero'] at hx116_2); replace p116 := eq_true p116; replace q116 := eq_true q116; have p117 : 0 ≤ (1 : Int) := (by omega); have q117 : 1 < (t111.length : Int) := of_decide_eq_true (by first | (with_reducible assumption) | assumption); obtain ⟨ad117, e117, hx117_0, hx117_1, hx117_2⟩ := at_T30 (Kd.R_reads' HO115.out).2.2 1 p117 q117; obtain rfl : ad116 = ad117 := (by injection e117); (try simp only [show (1 : Int).toNat = 1 from rfl, Nat.reduceMul, Nat.reduceEqDiff, Go.Addr.add, ↓reduceIte] at hx117_0); (try simp only [show (1 : Int).toNat = 1 from rfl, Nat.reduceMul, Nat.reduceEqDiff, Go.Addr.add, ↓reduceIte] at hx117_1); (try simp only [show (1 : Int).toNat = 1 from rfl, Nat.reduceMul, Nat.reduceEqDiff, Go.Addr.add, ↓reduceIte] at hx117_2); have qi117 : (1 < t111.length) = True := eq_true (by omega); (try rw [show ((1 : Int)).toNat = 1 from rfl] at hx117_0); (try rw [show 1 * 3 = 3 from rfl] at hx117_0); (try rw [show ((1 : Int)).toNat = 1 from rfl] at hx117_1); (try rw [show 1 * 3 = 3 from rfl] at hx117_1); (try rw [show ((1 : Int)).toNat = 1 from rfl] at hx117_2); (try rw [show 1 * 3 = 3 from rfl] at hx117_2); replace p117 := eq_true p117; replace q117 := eq_true q117))
              go_ret
              exact ⟨by first | rfl | (simp [errW_none, errW_some] <;> rfl) | (simp [*, errW_none, errW_some] <;> rfl), by repeat (first | (with_reducible first | exact HB.out | apply below_alloc | apply pw_below_drewN | apply below_drew1) | exact HB.out)⟩
          · rw [if_neg c6] at H
            exact absurd H (by simp)
        · rw [if_neg c5] at H
          have c5b0 : (((rd_T30 t111 0).f0) == 3) = false := beq_eq_false_iff_ne.mpr c5
          have c5b1 : (((rd_T30 t111 0).f0) != 3) = true := bne_iff_ne.mpr c5
          obtain rfl := Option.some.inj H
          go_enter Tryd.func19, Tryd.ntmps19
          go_wp2_with (first | ((with_reducible refine gate_callee (f := 18) rfl ?_); refine goesL_ (some 5) rfl rfl Tryd.func18 (by kernel_rfl) rfl #[.string (⟨#[42, 32, 42, 32, 42, 32, 100, 105, 118, 32, 116, 101, 120, 116, 32, 40, 32, 41]⟩ : ByteArray)] rfl (by (try simp only [List.map_toArray, List.map_cons, List.map_nil]); first | done | rfl | (simp only [List.length_drop, List.length_take]; rfl)) ?_; (with_reducible refine (xplex_Scan.calls (⟨#[42, 32, 42, 32, 42, 32, 100, 105, 118, 32, 116, 101, 120, 116, 32, 40, 32, 41]⟩ : ByteArray) t111 t112 t113 _ ?side1 A1.out).mono ?_); (case side1 => first | exact HLD | exact Laid.below HLD (by repeat (first | (with_reducible first | exact HB.out | apply below_alloc | apply pw_below_drewN | apply below_drew1) | exact HB.out))); rintro e w21 ⟨v114, rfl, ho0, hb⟩; refine ⟨_, rfl, ?_⟩; have n0_ := Aside0.mk (Kd.R_lower ho0 (below_size (by repeat (first | (with_reducible first | exact HB.out | apply below_alloc | apply pw_below_drewN | apply below_drew1) | exact HB.out)))); have n1_ := Aside0.mk (below_step (by repeat (first | (with_reducible first | exact HB.out | apply below_alloc | apply pw_below_drewN | apply below_drew1) | exact HB.out)) hb); clear HB; have HO115 := n0_; have HB := n1_; clear n0_ n1_; (try clear hb); (try clear hb2); (try clear hk); (try clear hi); (try clear ho0); obtain ⟨Ao22, co22, eo22⟩ := Kd.R_slice HO115.out; subst eo22; have p116 : 0 ≤ (0 : Int) := (by omega); have q116 : 0 < (t111.length : Int) := of_decide_eq_true (by first | (with_reducible assumption) | assumption); obtain ⟨ad116, e116, hx116_0, hx116_1, hx116_2⟩ := at_T30 (Kd.R_reads' HO115.out).2.2 0 p116 q116; cases e116; have qi116 : (0 < t111.length) = True := eq_true (by omega); (try rw [show ((0 : Int)).toNat = 0 from rfl] at hx116_0); (try rw [show 0 * 3 = 0 from rfl] at hx116_0); (try rw [Addr.add_zero'] at hx116_0); (try rw [show ((0 : Int)).toNat = 0 from rfl] at hx116_1); (try rw [show 0 * 3 = 0 from rfl] at hx116_1); (try rw [Addr.add_zero'] at hx116_1); (try rw [show ((0 : Int)).toNat = 0 from rfl] at hx116_2); (try rw [show 0 * 3 = 0 from rfl] at hx116_2); (try rw [Addr.add_zero'] at hx116_2); replace p116 := eq_true p116; replace q116 := eq_true q116))
          go_ret
          exact ⟨by first | rfl | (simp [errW_none, errW_some] <;> rfl) | (simp [*, errW_none, errW_some] <;> rfl), by repeat (first | (with_reducible first | exact HB.out | apply below_alloc | apply pw_below_drewN | apply below_drew1) | exact HB.out)⟩
      · rw [if_neg c4] at H
        exact absurd H (by simp)
    · rw [if_neg c3] at H
      have c3b0 : ((t111.length : Int) == 7) = false := beq_eq_false_iff_ne.mpr c3
      have c3b1 : ((t111.length : Int) != 7) = true := bne_iff_ne.mpr c3
      obtain rfl := Option.some.inj H
      go_enter Tryd.func19, Tryd.ntmps19
      go_wp2_with (first | ((with_reducible refine gate_callee (f := 18) rfl ?_); refine goesL_ (some 5) rfl rfl Tryd.func18 (by kernel_rfl) rfl #[.string (⟨#[42, 32, 42, 32, 42, 32, 100, 105, 118, 32, 116, 101, 120, 116, 32, 40, 32, 41]⟩ : ByteArray)] rfl (by (try simp only [List.map_toArray, List.map_cons, List.map_nil]); first | done | rfl | (simp only [List.length_drop, List.length_take]; rfl)) ?_; (with_reducible refine (xplex_Scan.calls (⟨#[42, 32, 42, 32, 42, 32, 100, 105, 118, 32, 116, 101, 120, 116, 32, 40, 32, 41]⟩ : ByteArray) t111 t112 t113 _ ?side1 A1.out).mono ?_); (case side1 => first | exact HLD | exact Laid.below HLD (by repeat (first | (with_reducible first | exact HB.out | apply below_alloc | apply pw_below_drewN | apply below_drew1) | exact HB.out))); rintro e w23 ⟨v114, rfl, ho0, hb⟩; refine ⟨_, rfl, ?_⟩; have n0_ := Aside0.mk (Kd.R_lower ho0 (below_size (by repeat (first | (with_reducible first | exact HB.out | apply below_alloc | apply pw_below_drewN | apply below_drew1) | exact HB.out)))); have n1_ := Aside0.mk (below_step (by repeat (first | (with_reducible first | exact HB.out | apply below_alloc | apply pw_below_drewN | apply below_drew1) | exact HB.out)) hb); clear HB; have HO115 := n0_; have HB := n1_; clear n0_ n1_; (try clear hb); (try clear hb2); (try clear hk); (try clear hi); (try clear ho0); obtain ⟨Ao24, co24, eo24⟩ := Kd.R_slice HO115.out; subst eo24))
      go_ret
      exact ⟨by first | rfl | (simp [errW_none, errW_some] <;> rfl) | (simp [*, errW_none, errW_some] <;> rfl), by repeat (first | (with_reducible first | exact HB.out | apply below_alloc | apply pw_below_drewN | apply below_drew1) | exact HB.out)⟩
  · rw [if_neg c2] at H
    have c2b0 : (t112 == 0) = false := beq_eq_false_iff_ne.mpr c2
    have c2b1 : (t112 != 0) = true := bne_iff_ne.mpr c2
    obtain rfl := Option.some.inj H
    go_enter Tryd.func19, Tryd.ntmps19
    go_wp2_with (first | ((with_reducible refine gate_callee (f := 18) rfl ?_); refine goesL_ (some 5) rfl rfl Tryd.func18 (by kernel_rfl) rfl #[.string (⟨#[42, 32, 42, 32, 42, 32, 100, 105, 118, 32, 116, 101, 120, 116, 32, 40, 32, 41]⟩ : ByteArray)] rfl (by (try simp only [List.map_toArray, List.map_cons, List.map_nil]); first | done | rfl | (simp only [List.length_drop, List.length_take]; rfl)) ?_; (with_reducible refine (xplex_Scan.calls (⟨#[42, 32, 42, 32, 42, 32, 100, 105, 118, 32, 116, 101, 120, 116, 32, 40, 32, 41]⟩ : ByteArray) t111 t112 t113 _ ?side1 A1.out).mono ?_); (case side1 => first | exact HLD | exact Laid.below HLD (by repeat (first | (with_reducible first | exact HB.out | apply below_alloc | apply pw_below_drewN | apply below_drew1) | exact HB.out))); rintro e w25 ⟨v114, rfl, ho0, hb⟩; refine ⟨_, rfl, ?_⟩; have n0_ := Aside0.mk (Kd.R_lower ho0 (below_size (by repeat (first | (with_reducible first | exact HB.out | apply below_alloc | apply pw_below_drewN | apply below_drew1) | exact HB.out)))); have n1_ := Aside0.mk (below_step (by repeat (first | (with_reducible first | exact HB.out | apply below_alloc | apply pw_below_drewN | apply below_drew1) | exact HB.out)) hb); clear HB; have HO115 := n0_; have HB := n1_; clear n0_ n1_; (try clear hb); (try clear hb2); (try clear hk); (try clear hi); (try clear ho0)))
    go_ret
    exact ⟨by first | rfl | (simp [errW_none, errW_some] <;> rfl) | (simp [*, errW_none, errW_some] <;> rfl), by repeat (first | (with_reducible first | exact HB.out | apply below_alloc | apply pw_below_drewN | apply below_drew1) | exact HB.out)⟩

/-! ### xplex_Literal: function 24 -/
def xplex_Literal.l0 : Nat → ByteArray → List ByteArray → Int → Int → Option (ByteArray × Int)
  | 0, _, _, _, _ => none
  | k + 1, x0, x6, x7, x8 => if x8 < x7 then (if 0 ≤ x8 then (if x8 < (x6.length : Int) then ((strings_Contains.f x0 (rdOf ByteArray.empty x6 x8)).bind fun t125 => (if t125 = true then (xplex_Literal.l0 k x0 x6 x7 (wrap64 (x8 + 1))) else (if (rdOf ByteArray.empty x6 x8).size + x0.size ≤ 9223372036854775807 then (if (rdOf ByteArray.empty x6 x8).size + x0.size + (rdOf ByteArray.empty x6 x8).size ≤ 9223372036854775807 then (some (((rdOf ByteArray.empty x6 x8) ++ x0) ++ (rdOf ByteArray.empty x6 x8), 0)) else (none)) else (none)))) else (none)) else (none)) else (some ((⟨#[]⟩ : ByteArray), 9))
def xplex_Literal.f (k : Nat) (a0 : ByteArray) : Option (ByteArray × Int) := (some (([(⟨#[34]⟩ : ByteArray), (⟨#[39]⟩ : ByteArray)] : List ByteArray) : List ByteArray)).bind fun y121 => (xplex_Literal.l0 k a0 y121 (y121.length : Int) 0)
theorem xplex_Literal.mono_l : ∀ k, (∀ y0 y1 y2 y3, LeO (xplex_Literal.l0 k y0 y1 y2 y3) (xplex_Literal.l0 (k + 1) y0 y1 y2 y3))
  | 0 => fun _ _ _ _ r h => by simp [xplex_Literal.l0] at h
  | k + 1 => by
    have ih0 := xplex_Literal.mono_l k
    · intro y0 y1 y2 y3
      unfold xplex_Literal.l0
      repeat' first
      | (with_reducible exact ih0 _ _ _ _)
      | (with_reducible exact LeO.refl _)
      | (with_reducible exact LeO.none _)
      | (with_reducible refine LeO.ite ?_ ?_)
      | (with_reducible refine LeO.bind ?_ (fun _ => ?_))
      | exact ih0 _ _ _ _
      | exact LeO.none _
      | refine LeO.ite ?_ ?_
      | refine LeO.bind ?_ (fun _ => ?_)
theorem xplex_Literal.mono : ∀ a0 k, LeO (xplex_Literal.f k a0) (xplex_Literal.f (k + 1) a0) := by
  intro a0 k
  have ih0 := xplex_Literal.mono_l k
  unfold xplex_Literal.f
  repeat' first
      | (with_reducible exact ih0 _ _ _ _)
      | (with_reducible exact LeO.refl _)
      | (with_reducible exact LeO.none _)
      | (with_reducible refine LeO.ite ?_ ?_)
      | (with_reducible refine LeO.bind ?_ (fun _ => ?_))
      | exact ih0 _ _ _ _
      | exact LeO.none _
      | refine LeO.ite ?_ ?_
      | refine LeO.bind ?_ (fun _ => ?_)
set_option maxHeartbeats 8000000 in
set_option maxRecDepth 100000 in
theorem xplex_Literal.calls (k : Nat) (a0 : ByteArray) (r1 : ByteArray) (r2 : Int) (w : World) (HLD : Laid w) (h : xplex_Literal.f k a0 = some (r1, r2)) :
    Calls Tryd.prog 24 #[.string a0] w fun e w' => e = .returned (.tuple #[.string r1, .int .i64 r2]) ∧ Below w.heap.size w w' := by
  have HB := Aside0.mk (Below.refl w.heap.size w)
  have H : ((some (([(⟨#[34]⟩ : ByteArray), (⟨#[39]⟩ : ByteArray)] : List ByteArray) : List ByteArray)).bind fun y121 => (xplex_Literal.l0 k a0 y121 (y121.length : Int) 0)) = some (r1, r2) := h
  clear h
  obtain ⟨y121, hy121⟩ : ∃ y_ : List ByteArray, y_ = (([(⟨#[34]⟩ : ByteArray), (⟨#[39]⟩ : ByteArray)] : List ByteArray)) := ⟨_, rfl⟩
  replace H : (xplex_Literal.l0 k a0 y121 (y121.length : Int) 0) = some (r1, r2) := by first | (rw [hy121]; with_reducible exact H) | (have H2_ := (Option.bind_some _ _).symm.trans H; rw [hy121]; with_reducible exact H2_) | (have H2_ := (Option.bind_some _ _).symm.trans H; with_reducible exact H2_) | with_reducible exact H | (rw [hy121]; exact H) | exact H
  have Ny121 := Aside0.mk hy121
  clear hy121
  have H' := Aside0.mk H
  clear H
  go_enter Tryd.func24, Tryd.ntmps24
  go_wp2_with (first | ((with_reducible refine gate_dst (N := 6) rfl ?_); refine Kd.R_lit Kd.string _ 9 ?hg (N := 6) ?hd (xs := ([(⟨#[34]⟩ : ByteArray), (⟨#[39]⟩ : ByteArray)] : List ByteArray)) (inner := [.string (⟨#[34]⟩ : ByteArray), .string (⟨#[39]⟩ : ByteArray)]) (ok := fun _ => True) (okp := fun _ => True) ?hr ?hp (fun _ hk => hk) trivial (Below.refl _ _) (Nat.le_refl _) (by simp) ?_; (case hd => rfl); (case hg => rfl); (case hr => first | (go_simp; done) | (go_simp; rfl)); (case hp => exact (Reps.one (show Kd.M Kd.string _ _ _ (⟨#[34]⟩ : ByteArray) [.string (⟨#[34]⟩ : ByteArray)] from rfl) (Reps.one (show Kd.M Kd.string _ _ _ (⟨#[39]⟩ : ByteArray) [.string (⟨#[39]⟩ : ByteArray)] from rfl) (Reps.none _ _)))); intro v122 w2 ho3 hb hg_ hnew_; clear hg_ hnew_; (first | rw [← Ny121.out] at ho3 | (simp only [Int.reduceToNat] at ho3; rw [← Ny121.out] at ho3)); have n0_ := Aside0.mk (Kd.R_lower ho3 (below_size (by repeat (first | (with_reducible first | exact HB.out | apply below_alloc | apply pw_below_drewN | apply below_drew1) | exact HB.out)))); have n1_ := Aside0.mk (below_step (by repeat (first | (with_reducible first | exact HB.out | apply below_alloc | apply pw_below_drewN | apply below_drew1) | exact HB.out)) hb); clear HB; have HO123 := n0_; have HB := n1_; clear n0_ n1_; clear hb ho3; obtain ⟨Ao4, co4, eo4⟩ := Kd.R_slice HO123.out; subst eo4))
  go_loopg [8] k (fun kq v8 w' => ∃ (x8_1 : Int), v8 = .int .i64 x8_1 ∧ Aside0 (xplex_Literal.l0 kq a0 y121 (y121.length : Int) x8_1 = some (r1, r2)) ∧ Aside0 (kq ≤ k) ∧ Aside0 (Kd.R Kd.string 9 w' w.heap.size (fun _ => True) (.slice Ao4 y121.length co4) y121) ∧ Aside0 (Below w.heap.size w w'))
  case atStart => exact ⟨(0), (by first | rfl | (simp; done) | (simp [*]; done)), H', ⟨Nat.le_refl _⟩, ⟨by (with_reducible repeat (first | apply Kd.R_alloc | apply Kd.R_drewN | apply Kd.R_drew)); exact HO123.out⟩, ⟨by repeat (first | (with_reducible first | exact HB.out | apply below_alloc | apply pw_below_drewN | apply below_drew1) | exact HB.out)⟩⟩
  case round =>
    clear H'
    try clear c2
    try clear p2
    obtain ⟨x8_1, rfl, HA, HK1, HO_6, HB⟩ := hrel
    cases gk with
    | zero => exact absurd HA.out (by simp [xplex_Literal.l0])
    | succ k1 =>
      have H := HA.out
      clear HA
      simp only [xplex_Literal.l0] at H
      by_cases c5 : x8_1 < (y121.length : Int)
      · rw [if_pos c5] at H
        have c5b0 : decide (x8_1 < (y121.length : Int)) = true := decide_eq_true c5
        clear c5
        by_cases c6 : 0 ≤ x8_1
        · rw [if_pos c6] at H
          have c6b0 : decide (0 ≤ x8_1) = true := decide_eq_true c6
          clear c6
          by_cases c7 : x8_1 < (y121.length : Int)
          · rw [if_pos c7] at H
            have c7b0 : decide (x8_1 < (y121.length : Int)) = true := decide_eq_true c7
            clear c7
            replace H := Option.bind_eq_some_iff.mp H
            obtain ⟨t125, A80, H⟩ := H
            replace H : (if t125 = true then (xplex_Literal.l0 k1 a0 y121 (y121.length : Int) (wrap64 (x8_1 + 1))) else (if (rdOf ByteArray.empty y121 x8_1).size + a0.size ≤ 9223372036854775807 then (if (rdOf ByteArray.empty y121 x8_1).size + a0.size + (rdOf ByteArray.empty y121 x8_1).size ≤ 9223372036854775807 then (some (((rdOf ByteArray.empty y121 x8_1) ++ a0) ++ (rdOf ByteArray.empty y121 x8_1), 0)) else (none)) else (none))) = some (r1, r2) := H
            have A8 := Aside0.mk A80
            clear A80
            by_cases c9 : t125 = true
            · subst c9
              have H1 : (xplex_Literal.l0 k1 a0 y121 (y121.length : Int) (wrap64 (x8_1 + 1))) = some (r1, r2) := by rw [if_pos rfl] at H; exact H
              clear H
              have H := H1
              clear H1
              have H' := Aside0.mk H
              clear H
              have p124 : 0 ≤ (x8_1 : Int) := of_decide_eq_true (by first | (with_reducible assumption) | assumption)
              have q124 : x8_1 < (y121.length : Int) := of_decide_eq_true (by first | (with_reducible assumption) | assumption)
              obtain ⟨ad124, e124, hx124_0⟩ := Kd.at_string (Kd.R_reads' HO_6.out).2.2 x8_1 p124 q124
              cases e124
              replace p124 := eq_true p124
              replace q124 := eq_true q124
              go_wp2_with (first | ((with_reducible refine gate_callee (f := 54) rfl ?_); refine goesL_ (some 14) rfl rfl Tryd.func54 (by kernel_rfl) rfl #[.string a0, .string (rdOf ByteArray.empty y121 x8_1)] rfl (by (try simp only [List.map_toArray, List.map_cons, List.map_nil]); first | done | rfl | (simp only [List.length_drop, List.length_take]; rfl)) ?_; (with_reducible refine (strings_Contains.calls a0 (rdOf ByteArray.empty y121 x8_1) true _ ?side1 A8.out).mono ?_); (case side1 => first | exact HLD | exact Laid.below HLD (by repeat (first | (with_reducible first | exact HB.out | apply below_alloc | apply pw_below_drewN | apply below_drew1) | exact HB.out))); rintro e w' ⟨rfl, ⟨nd, rfl⟩⟩; refine ⟨_, rfl, ?_⟩))
              go_roundg k1
              case measure => have := HK1.out; omega
              case rel => exact ⟨(wrap64 (x8_1 + 1)), (by first | rfl | (simp; done) | (simp [*]; done)), H', ⟨by have := HK1.out; omega⟩, ⟨by (with_reducible repeat (first | apply Kd.R_alloc | apply Kd.R_drewN | apply Kd.R_drew)); exact HO_6.out⟩, ⟨by repeat (first | (with_reducible first | exact HB.out | apply below_alloc | apply pw_below_drewN | apply below_drew1) | exact HB.out)⟩⟩
            · replace c9 := Bool.eq_false_iff.mpr c9
              subst c9
              have H1 : (if (rdOf ByteArray.empty y121 x8_1).size + a0.size ≤ 9223372036854775807 then (if (rdOf ByteArray.empty y121 x8_1).size + a0.size + (rdOf ByteArray.empty y121 x8_1).size ≤ 9223372036854775807 then (some (((rdOf ByteArray.empty y121 x8_1) ++ a0) ++ (rdOf ByteArray.empty y121 x8_1), 0)) else (none)) else (none)) = some (r1, r2) := by rw [if_neg (show ¬ (false = true) by decide)] at H; exact H
              clear H
              have H := H1
              clear H1
              by_cases c10 : (rdOf ByteArray.empty y121 x8_1).size + a0.size ≤ 9223372036854775807
              · rw [if_pos c10] at H
                have c10b0 := eq_true c10
                have c10b1 : decide ((rdOf ByteArray.empty y121 x8_1).size + a0.size ≤ 9223372036854775807) = true := decide_eq_true c10
                try have c10b2 : (9223372036854775807 < (rdOf ByteArray.empty y121 x8_1).size + a0.size) = False := eq_false (Nat.not_lt.2 c10)
                by_cases c11 : (rdOf ByteArray.empty y121 x8_1).size + a0.size + (rdOf ByteArray.empty y121 x8_1).size ≤ 9223372036854775807
                · rw [if_pos c11] at H
                  have c11b0 := eq_true c11
                  have c11b1 : decide ((rdOf ByteArray.empty y121 x8_1).size + a0.size + (rdOf ByteArray.empty y121 x8_1).size ≤ 9223372036854775807) = true := decide_eq_true c11
                  try have c11b2 : (9223372036854775807 < (rdOf ByteArray.empty y121 x8_1).size + a0.size + (rdOf ByteArray.empty y121 x8_1).size) = False := eq_false (Nat.not_lt.2 c11)
                  simp only [Option.some.injEq, Prod.mk.injEq] at H
                  obtain ⟨rfl, rfl⟩ := H
                  have p124 : 0 ≤ (x8_1 : Int) := of_decide_eq_true (by first | (with_reducible assumption) | assumption)
                  have q124 : x8_1 < (y121.length : Int) := of_decide_eq_true (by first | (with_reducible assumption) | assumption)
                  obtain ⟨ad124, e124, hx124_0⟩ := Kd.at_string (Kd.R_reads' HO_6.out).2.2 x8_1 p124 q124
                  cases e124
                  replace p124 := eq_true p124
                  replace q124 := eq_true q124
                  go_wp2_with (first | ((with_reducible refine gate_callee (f := 54) rfl ?_); refine goesL_ (some 14) rfl rfl Tryd.func54 (by kernel_rfl) rfl #[.string a0, .string (rdOf ByteArray.empty y121 x8_1)] rfl (by (try simp only [List.map_toArray, List.map_cons, List.map_nil]); first | done | rfl | (simp only [List.length_drop, List.length_take]; rfl)) ?_; (with_reducible refine (strings_Contains.calls a0 (rdOf ByteArray.empty y121 x8_1) false _ ?side1 A8.out).mono ?_); (case side1 => first | exact HLD | exact Laid.below HLD (by repeat (first | (with_reducible first | exact HB.out | apply below_alloc | apply pw_below_drewN | apply below_drew1) | exact HB.out))); rintro e w' ⟨rfl, ⟨nd, rfl⟩⟩; refine ⟨_, rfl, ?_⟩))
                  go_ret2
                  exact ⟨by first | rfl | (simp [errW_none, errW_some] <;> rfl) | (simp [*, errW_none, errW_some] <;> rfl), by repeat (first | (with_reducible first | exact HB.out | apply below_alloc | apply pw_below_drewN | apply below_drew1) | exact HB.out)⟩
                · rw [if_neg c11] at H
                  exact absurd H (by simp)
              · rw [if_neg c10] at H
                exact absurd H (by simp)
          · rw [if_neg c7] at H
            exact absurd H (by simp)
        · rw [if_neg c6] at H
          exact absurd H (by simp)
      · rw [if_neg c5] at H
        have c5b0 : decide (x8_1 < (y121.length : Int)) = false := decide_eq_false c5
        clear c5
        simp only [Option.some.injEq, Prod.mk.injEq] at H
        obtain ⟨rfl, rfl⟩ := H
        go_wp2
        go_ret2
        exact ⟨by first | rfl | (simp [errW_none, errW_some] <;> rfl) | (simp [*, errW_none, errW_some] <;> rfl), by repeat (first | (with_reducible first | exact HB.out | apply below_alloc | apply pw_below_drewN | apply below_drew1) | exact HB.out)⟩

/-! ### stencilref05_Literal: function 48 -/
mutual
def stencilref05_Literal.l0 : Nat → ByteArray → Bool → Bool → Int → Option (ByteArray × Int)
  | 0, _, _, _, _ => none
  | k + 1, x0, x4, x5, x6 => if x6 < (x0.size : Int) then (if x4 = true then (if x5 = true then (stencilref05_Literal.l0 k x0 true true (wrap64 (x6 + 1))) else (if 0 ≤ x6 then (stencilref05_Literal.l0 k x0 true ((bt x0 x6) == 39) (wrap64 (x6 + 1))) else (none))) else (if 0 ≤ x6 then (if x5 = true then (stencilref05_Literal.l0 k x0 ((bt x0 x6) == 34) true (wrap64 (x6 + 1))) else (stencilref05_Literal.l0 k x0 ((bt x0 x6) == 34) ((bt x0 x6) == 39) (wrap64 (x6 + 1)))) else (none))) else (if x5 = true then (stencilref05_Literal.j1 k x0 x4 x4) else (stencilref05_Literal.j1 k x0 x4 false))
def stencilref05_Literal.j1 : Nat → ByteArray → Bool → Bool → Option (ByteArray × Int)
  | 0, _, _, _ => none
  | k + 1, x0, x4, x27 => if x27 = true then (some ((⟨#[]⟩ : ByteArray), 9)) else (if x4 = true then (if 1 + x0.size ≤ 9223372036854775807 then (if 1 + x0.size + 1 ≤ 9223372036854775807 then (some (((⟨#[39]⟩ : ByteArray) ++ x0) ++ (⟨#[39]⟩ : ByteArray), 0)) else (none)) else (none)) else (if 1 + x0.size ≤ 9223372036854775807 then (if 1 + x0.size + 1 ≤ 9223372036854775807 then (some (((⟨#[34]⟩ : ByteArray) ++ x0) ++ (⟨#[34]⟩ : ByteArray), 0)) else (none)) else (none)))
end
def stencilref05_Literal.f (k : Nat) (a0 : ByteArray) : Option (ByteArray × Int) := stencilref05_Literal.l0 k a0 false false 0
theorem stencilref05_Literal.mono_l : ∀ k, (∀ y0 y1 y2 y3, LeO (stencilref05_Literal.l0 k y0 y1 y2 y3) (stencilref05_Literal.l0 (k + 1) y0 y1 y2 y3)) ∧ (∀ y0 y1 y2, LeO (stencilref05_Literal.j1 k y0 y1 y2) (stencilref05_Literal.j1 (k + 1) y0 y1 y2))
  | 0 => ⟨fun _ _ _ _ r h => by simp [stencilref05_Literal.l0] at h, fun _ _ _ r h => by simp [stencilref05_Literal.j1] at h⟩
  | k + 1 => by
    obtain ⟨ih0, ih1⟩ := stencilref05_Literal.mono_l k
    refine ⟨?_, ?_⟩
    · intro y0 y1 y2 y3
      unfold stencilref05_Literal.l0
      repeat' first
      | (with_reducible exact ih0 _ _ _ _)
      | (with_reducible exact ih1 _ _ _)
      | (with_reducible exact LeO.refl _)
      | (with_reducible exact LeO.none _)
      | (with_reducible refine LeO.ite ?_ ?_)
      | (with_reducible refine LeO.bind ?_ (fun _ => ?_))
      | exact ih0 _ _ _ _
      | exact ih1 _ _ _
      | exact LeO.none _
      | refine LeO.ite ?_ ?_
      | refine LeO.bind ?_ (fun _ => ?_)
    · intro y0 y1 y2
      unfold stencilref05_Literal.j1
      repeat' first
      | (with_reducible exact ih0 _ _ _ _)
      | (with_reducible exact ih1 _ _ _)
      | (with_reducible exact LeO.refl _)
      | (with_reducible exact LeO.none _)
      | (with_reducible refine LeO.ite ?_ ?_)
      | (with_reducible refine LeO.bind ?_ (fun _ => ?_))
      | exact ih0 _ _ _ _
      | exact ih1 _ _ _
      | exact LeO.none _
      | refine LeO.ite ?_ ?_
      | refine LeO.bind ?_ (fun _ => ?_)
theorem stencilref05_Literal.mono : ∀ a0 k, LeO (stencilref05_Literal.f k a0) (stencilref05_Literal.f (k + 1) a0) := by
  intro a0 k
  obtain ⟨ih0, ih1⟩ := stencilref05_Literal.mono_l k
  unfold stencilref05_Literal.f
  repeat' first
      | (with_reducible exact ih0 _ _ _ _)
      | (with_reducible exact ih1 _ _ _)
      | (with_reducible exact LeO.refl _)
      | (with_reducible exact LeO.none _)
      | (with_reducible refine LeO.ite ?_ ?_)
      | (with_reducible refine LeO.bind ?_ (fun _ => ?_))
      | exact ih0 _ _ _ _
      | exact ih1 _ _ _
      | exact LeO.none _
      | refine LeO.ite ?_ ?_
      | refine LeO.bind ?_ (fun _ => ?_)
set_option maxHeartbeats 8000000 in
set_option maxRecDepth 100000 in
theorem stencilref05_Literal.calls (k : Nat) (a0 : ByteArray) (r1 : ByteArray) (r2 : Int) (w : World) (HLD : Laid w) (h : stencilref05_Literal.f k a0 = some (r1, r2)) :
    Calls Tryd.prog 48 #[.string a0] w fun e w' => e = .returned (.tuple #[.string r1, .int .i64 r2]) ∧ Drawn0 w w' := by
  have H : (stencilref05_Literal.l0 k a0 false false 0) = some (r1, r2) := h
  clear h
  have H' := Aside0.mk H
  clear H
  go_enter Tryd.func48, Tryd.ntmps48
  go_wp2
  go_loopg [4, 5, 6] k (fun kq v4 v5 v6 w' => ∃ (x4_1 : Bool) (x5_1 : Bool) (x6_1 : Int), v4 = .bool x4_1 ∧ v5 = .bool x5_1 ∧ v6 = .int .i64 x6_1 ∧ Aside0 (stencilref05_Literal.l0 kq a0 x4_1 x5_1 x6_1 = some (r1, r2)) ∧ Aside0 (kq ≤ k) ∧ Drawn0 w w')
  case atStart => exact ⟨(false), (false), (0), (by first | rfl | (simp; done) | (simp [*]; done)), (by first | rfl | (simp; done) | (simp [*]; done)), (by first | rfl | (simp; done) | (simp [*]; done)), H', ⟨Nat.le_refl _⟩, by repeat (first | exact Drawn0.refl _ | apply Drawn0.step)⟩
  case round =>
    clear H'
    obtain ⟨x4_1, x5_1, x6_1, rfl, rfl, rfl, HA, HK1, ⟨m1, rfl⟩⟩ := hrel
    cases gk with
    | zero => exact absurd HA.out (by simp [stencilref05_Literal.l0])
    | succ k1 =>
      have H := HA.out
      clear HA
      simp only [stencilref05_Literal.l0] at H
      by_cases c2 : x6_1 < (a0.size : Int)
      · rw [if_pos c2] at H
        have c2b0 : decide (x6_1 < (a0.size : Int)) = true := decide_eq_true c2
        clear c2
        by_cases c3 : x4_1 = true
        · subst c3
          have H1 : (if x5_1 = true then (stencilref05_Literal.l0 k1 a0 true true (wrap64 (x6_1 + 1))) else (if 0 ≤ x6_1 then (stencilref05_Literal.l0 k1 a0 true ((bt a0 x6_1) == 39) (wrap64 (x6_1 + 1))) else (none))) = some (r1, r2) := by rw [if_pos rfl] at H; exact H
          clear H
          have H := H1
          clear H1
          by_cases c4 : x5_1 = true
          · subst c4
            have H1 : (stencilref05_Literal.l0 k1 a0 true true (wrap64 (x6_1 + 1))) = some (r1, r2) := by rw [if_pos rfl] at H; exact H
            clear H
            have H := H1
            clear H1
            have H' := Aside0.mk H
            clear H
            go_wp2
            go_roundg k1
            case measure => have := HK1.out; omega
            case rel => exact ⟨(true), (true), (wrap64 (x6_1 + 1)), (by first | rfl | (simp; done) | (simp [*]; done)), (by first | rfl | (simp; done) | (simp [*]; done)), (by first | rfl | (simp; done) | (simp [*]; done)), H', ⟨by have := HK1.out; omega⟩, by repeat (first | exact Drawn0.refl _ | apply Drawn0.step)⟩
          · replace c4 := Bool.eq_false_iff.mpr c4
            subst c4
            have H1 : (if 0 ≤ x6_1 then (stencilref05_Literal.l0 k1 a0 true ((bt a0 x6_1) == 39) (wrap64 (x6_1 + 1))) else (none)) = some (r1, r2) := by rw [if_neg (show ¬ (false = true) by decide)] at H; exact H
            clear H
            have H := H1
            clear H1
            by_cases c5 : 0 ≤ x6_1
            · rw [if_pos c5] at H
              have c5b0 : decide (0 ≤ x6_1) = true := decide_eq_true c5
              clear c5
              have H' := Aside0.mk H
              clear H
              have p6 : 0 ≤ (x6_1 : Int) := of_decide_eq_true (by first | (with_reducible assumption) | assumption)
              have q6 : x6_1 < (a0.size : Int) := of_decide_eq_true (by first | (with_reducible assumption) | assumption)
              have hx6 := bt_at a0 x6_1
              replace p6 := eq_true p6
              replace q6 := eq_true q6
              go_wp2
              go_roundg k1
              case measure => have := HK1.out; omega
              case rel => exact ⟨(true), (((bt a0 x6_1) == 39)), (wrap64 (x6_1 + 1)), (by first | rfl | (simp; done) | (simp [*]; done)), (by first | rfl | (simp; done) | (simp [*]; done)), (by first | rfl | (simp; done) | (simp [*]; done)), H', ⟨by have := HK1.out; omega⟩, by repeat (first | exact Drawn0.refl _ | apply Drawn0.step)⟩
            · rw [if_neg c5] at H
              exact absurd H (by simp)
        · replace c3 := Bool.eq_false_iff.mpr c3
          subst c3
          have H1 : (if 0 ≤ x6_1 then (if x5_1 = true then (stencilref05_Literal.l0 k1 a0 ((bt a0 x6_1) == 34) true (wrap64 (x6_1 + 1))) else (stencilref05_Literal.l0 k1 a0 ((bt a0 x6_1) == 34) ((bt a0 x6_1) == 39) (wrap64 (x6_1 + 1)))) else (none)) = some (r1, r2) := by rw [if_neg (show ¬ (false = true) by decide)] at H; exact H
          clear H
          have H := H1
          clear H1
          by_cases c7 : 0 ≤ x6_1
          · rw [if_pos c7] at H
            have c7b0 : decide (0 ≤ x6_1) = true := decide_eq_true c7
            clear c7
            by_cases c9 : x5_1 = true
            · subst c9
              have H1 : (stencilref05_Literal.l0 k1 a0 ((bt a0 x6_1) == 34) true (wrap64 (x6_1 + 1))) = some (r1, r2) := by rw [if_pos rfl] at H; exact H
              clear H
              have H := H1
              clear H1
              have H' := Aside0.mk H
              clear H
              have p8 : 0 ≤ (x6_1 : Int) := of_decide_eq_true (by first | (with_reducible assumption) | assumption)
              have q8 : x6_1 < (a0.size : Int) := of_decide_eq_true (by first | (with_reducible assumption) | assumption)
              have hx8 := bt_at a0 x6_1
              replace p8 := eq_true p8
              replace q8 := eq_true q8
              go_wp2
              go_roundg k1
              case measure => have := HK1.out; omega
              case rel => exact ⟨(((bt a0 x6_1) == 34)), (true), (wrap64 (x6_1 + 1)), (by first | rfl | (simp; done) | (simp [*]; done)), (by first | rfl | (simp; done) | (simp [*]; done)), (by first | rfl | (simp; done) | (simp [*]; done)), H', ⟨by have := HK1.out; omega⟩, by repeat (first | exact Drawn0.refl _ | apply Drawn0.step)⟩
            · replace c9 := Bool.eq_false_iff.mpr c9
              subst c9
              have H1 : (stencilref05_Literal.l0 k1 a0 ((bt a0 x6_1) == 34) ((bt a0 x6_1) == 39) (wrap64 (x6_1 + 1))) = some (r1, r2) := by rw [if_neg (show ¬ (false = true) by decide)] at H; exact H
              clear H
              have H := H1
              clear H1
              have H' := Aside0.mk H
              clear H
              have p8 : 0 ≤ (x6_1 : Int) := of_decide_eq_true (by first | (with_reducible assumption) | assumption)
              have q8 : x6_1 < (a0.size : Int) := of_decide_eq_true (by first | (with_reducible assumption) | assumption)
              have hx8 := bt_at a0 x6_1
              replace p8 := eq_true p8
              replace q8 := eq_true q8
              have p10 : 0 ≤ (x6_1 : Int) := of_decide_eq_true (by first | (with_reducible assumption) | assumption)
              have q10 : x6_1 < (a0.size : Int) := of_decide_eq_true (by first | (with_reducible assumption) | assumption)
              have hx10 := bt_at a0 x6_1
              replace p10 := eq_true p10
              replace q10 := eq_true q10
              go_wp2
              go_roundg k1
              case measure => have := HK1.out; omega
              case rel => exact ⟨(((bt a0 x6_1) == 34)), (((bt a0 x6_1) == 39)), (wrap64 (x6_1 + 1)), (by first | rfl | (simp; done) | (simp [*]; done)), (by first | rfl | (simp; done) | (simp [*]; done)), (by first | rfl | (simp; done) | (simp [*]; done)), H', ⟨by have := HK1.out; omega⟩, by repeat (first | exact Drawn0.refl _ | apply Drawn0.step)⟩
          · rw [if_neg c7] at H
            exact absurd H (by simp)
      · rw [if_neg c2] at H
        have c2b0 : decide (x6_1 < (a0.size : Int)) = false := decide_eq_false c2
        clear c2
        have HC11 := Aside0.mk H
        clear H
        go_upto_region 7 with (fail)
        go_cut [27] (fun v27 wc => ∃ (kq : Nat) (x27_10 : Bool), v27 = .bool x27_10 ∧ Aside0 (stencilref05_Literal.j1 kq a0 x4_1 x27_10 = some (r1, r2)) ∧ Aside0 (kq ≤ k1) ∧ Drawn0 w wc)
        case first =>
          have H := HC11.out
          clear HC11
          by_cases c12 : x5_1 = true
          · subst c12
            have H1 : (stencilref05_Literal.j1 k1 a0 x4_1 x4_1) = some (r1, r2) := by rw [if_pos rfl] at H; exact H
            clear H
            have H := H1
            clear H1
            have H' := Aside0.mk H
            clear H
            go_wp2
            go_meet
            case rel => exact ⟨_, (x4_1), (by first | rfl | (simp; done) | (simp [*]; done)), H', ⟨by have := HK1.out; first | omega | exact Nat.le_refl _⟩, by repeat (first | exact Drawn0.refl _ | apply Drawn0.step)⟩
          · replace c12 := Bool.eq_false_iff.mpr c12
            subst c12
            have H1 : (stencilref05_Literal.j1 k1 a0 x4_1 false) = some (r1, r2) := by rw [if_neg (show ¬ (false = true) by decide)] at H; exact H
            clear H
            have H := H1
            clear H1
            have H' := Aside0.mk H
            clear H
            go_wp2
            go_meet
            case rel => exact ⟨_, (false), (by first | rfl | (simp; done) | (simp [*]; done)), H', ⟨by have := HK1.out; first | omega | exact Nat.le_refl _⟩, by repeat (first | exact Drawn0.refl _ | apply Drawn0.step)⟩
        case rest =>
          clear HC11
          try clear c1
          try clear p1
          try clear q1
          try clear hx1
          try clear c2
          try clear c2b0
          try clear p2
          try clear c3
          try clear c4
          try clear c5
          try clear c5b0
          try clear p6
          try clear q6
          try clear hx6
          try clear c7
          try clear c7b0
          try clear p8
          try clear q8
          try clear hx8
          try clear c9
          try clear p10
          try clear q10
          try clear hx10
          try clear c12
          try clear p10
          try clear p6
          try clear p8
          try clear q10
          try clear q6
          try clear q8
          obtain ⟨kq, x27_10, rfl, HA, HJ10, ⟨mc10, rfl⟩⟩ := hcut
          cases kq with
          | zero => exact absurd HA.out (by simp [stencilref05_Literal.j1])
          | succ kj10 =>
            have H := HA.out
            clear HA
            simp only [stencilref05_Literal.j1] at H
            by_cases c13 : x27_10 = true
            · subst c13
              have H1 : (some ((⟨#[]⟩ : ByteArray), 9)) = some (r1, r2) := by rw [if_pos rfl] at H; exact H
              clear H
              have H := H1
              clear H1
              simp only [Option.some.injEq, Prod.mk.injEq] at H
              obtain ⟨rfl, rfl⟩ := H
              go_wp2
              go_ret2
              exact ⟨by first | rfl | (simp; done) | (simp [*]; done), by repeat (first | exact Drawn0.refl _ | apply Drawn0.step)⟩
            · replace c13 := Bool.eq_false_iff.mpr c13
              subst c13
              have H1 : (if x4_1 = true then (if 1 + a0.size ≤ 9223372036854775807 then (if 1 + a0.size + 1 ≤ 9223372036854775807 then (some (((⟨#[39]⟩ : ByteArray) ++ a0) ++ (⟨#[39]⟩ : ByteArray), 0)) else (none)) else (none)) else (if 1 + a0.size ≤ 9223372036854775807 then (if 1 + a0.size + 1 ≤ 9223372036854775807 then (some (((⟨#[34]⟩ : ByteArray) ++ a0) ++ (⟨#[34]⟩ : ByteArray), 0)) else (none)) else (none))) = some (r1, r2) := by rw [if_neg (show ¬ (false = true) by decide)] at H; exact H
              clear H
              have H := H1
              clear H1
              by_cases c14 : x4_1 = true
              · subst c14
                have H1 : (if 1 + a0.size ≤ 9223372036854775807 then (if 1 + a0.size + 1 ≤ 9223372036854775807 then (some (((⟨#[39]⟩ : ByteArray) ++ a0) ++ (⟨#[39]⟩ : ByteArray), 0)) else (none)) else (none)) = some (r1, r2) := by rw [if_pos rfl] at H; exact H
                clear H
                have H := H1
                clear H1
                by_cases c15 : 1 + a0.size ≤ 9223372036854775807
                · rw [if_pos c15] at H
                  have c15b0 := eq_true c15
                  have c15b1 : decide (1 + a0.size ≤ 9223372036854775807) = true := decide_eq_true c15
                  try have c15b2 : (9223372036854775807 < 1 + a0.size) = False := eq_false (Nat.not_lt.2 c15)
                  by_cases c16 : 1 + a0.size + 1 ≤ 9223372036854775807
                  · rw [if_pos c16] at H
                    have c16b0 := eq_true c16
                    have c16b1 : decide (1 + a0.size + 1 ≤ 9223372036854775807) = true := decide_eq_true c16
                    try have c16b2 : (9223372036854775807 < 1 + a0.size + 1) = False := eq_false (Nat.not_lt.2 c16)
                    simp only [Option.some.injEq, Prod.mk.injEq] at H
                    obtain ⟨rfl, rfl⟩ := H
                    go_wp2
                    go_ret2
                    exact ⟨by first | rfl | (simp; done) | (simp [*]; done), by repeat (first | exact Drawn0.refl _ | apply Drawn0.step)⟩
                  · rw [if_neg c16] at H
                    exact absurd H (by simp)
                · rw [if_neg c15] at H
                  exact absurd H (by simp)
              · replace c14 := Bool.eq_false_iff.mpr c14
                subst c14
                have H1 : (if 1 + a0.size ≤ 9223372036854775807 then (if 1 + a0.size + 1 ≤ 9223372036854775807 then (some (((⟨#[34]⟩ : ByteArray) ++ a0) ++ (⟨#[34]⟩ : ByteArray), 0)) else (none)) else (none)) = some (r1, r2) := by rw [if_neg (show ¬ (false = true) by decide)] at H; exact H
                clear H
                have H := H1
                clear H1
                by_cases c17 : 1 + a0.size ≤ 9223372036854775807
                · rw [if_pos c17] at H
                  have c17b0 := eq_true c17
                  have c17b1 : decide (1 + a0.size ≤ 9223372036854775807) = true := decide_eq_true c17
                  try have c17b2 : (9223372036854775807 < 1 + a0.size) = False := eq_false (Nat.not_lt.2 c17)
                  by_cases c18 : 1 + a0.size + 1 ≤ 9223372036854775807
                  · rw [if_pos c18] at H
                    have c18b0 := eq_true c18
                    have c18b1 : decide (1 + a0.size + 1 ≤ 9223372036854775807) = true := decide_eq_true c18
                    try have c18b2 : (9223372036854775807 < 1 + a0.size + 1) = False := eq_false (Nat.not_lt.2 c18)
                    simp only [Option.some.injEq, Prod.mk.injEq] at H
                    obtain ⟨rfl, rfl⟩ := H
                    go_wp2
                    go_ret2
                    exact ⟨by first | rfl | (simp; done) | (simp [*]; done), by repeat (first | exact Drawn0.refl _ | apply Drawn0.step)⟩
                  · rw [if_neg c18] at H
                    exact absurd H (by simp)
                · rw [if_neg c17] at H
                  exact absurd H (by simp)

end Go.Proofs.YtinefoocajnhmaaDoor.Print
