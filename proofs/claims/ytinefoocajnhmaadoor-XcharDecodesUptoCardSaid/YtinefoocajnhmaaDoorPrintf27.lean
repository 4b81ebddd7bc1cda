-- Laid by xprint.py (ours), out of the seat's translation; Lean checks it.
import Derived.Test.YtinefoocajnhmaaDoorPrint0
import Derived.Test.YtinefoocajnhmaaDoorPrintf61
import Derived.Test.YtinefoocajnhmaaDoorPrintrefnarrow
namespace Go.Proofs.YtinefoocajnhmaaDoor.Print
open Go.RowKit Go.Proofs.YtinefoocajnhmaaDoorW.PrintWords Go.Proofs.YtinefoocajnhmaaDoorW.PrintLast Go.Proofs.YtinefoocajnhmaaDoorW.PrintMore
attribute [local go_sem] max2_int min2_int max_two min_two max_three min_three max_four min_four   -- for this text's walks alone
open Go.Proofs.YtinefoocajnhmaaDoor.Plain
set_option linter.unusedVariables false
set_option linter.unusedSimpArgs false

/-! ### stencilref01_Decode: function 27 -/
mutual
def stencilref01_Decode.j0 : Nat → List Int → Bool → Option (ByteArray × Int × Int)
  | 0, _, _ => none
  | k + 1, x0, x9 => if x9 = true then ((stencilref01_wide.f k x0 0).bind fun bt145 => (some (bt145.1, bt145.2.1, bt145.2.2))) else (if (x0.length : Int) ≥ 2 then (if 0 < (x0.length : Int) then (if (rd x0 0) = 255 then (if 1 < (x0.length : Int) then (stencilref01_Decode.j1 k x0 ((rd x0 1) == 254)) else (none)) else (stencilref01_Decode.j1 k x0 false)) else (none)) else (stencilref01_Decode.j1 k x0 false))
def stencilref01_Decode.j1 : Nat → List Int → Bool → Option (ByteArray × Int × Int)
  | 0, _, _ => none
  | k + 1, x0, x30 => if x30 = true then ((stencilref01_wide.f k x0 1).bind fun bt150 => (some (bt150.1, bt150.2.1, bt150.2.2))) else (if (x0.length : Int) ≥ 3 then (if 0 < (x0.length : Int) then (if (rd x0 0) = 239 then (if 1 < (x0.length : Int) then (if (rd x0 1) = 187 then (if 2 < (x0.length : Int) then (stencilref01_Decode.j2 k x0 ((rd x0 2) == 191)) else (none)) else (stencilref01_Decode.j2 k x0 false)) else (none)) else (stencilref01_Decode.j2 k x0 false)) else (none)) else (stencilref01_Decode.j2 k x0 false))
def stencilref01_Decode.j2 : Nat → List Int → Bool → Option (ByteArray × Int × Int)
  | 0, _, _ => none
  | k + 1, x0, x51 => if x51 = true then ((stencilref01_narrow.f k x0 3).bind fun bt156 => (some (bt156.1, bt156.2.1, bt156.2.2))) else ((stencilref01_narrow.f k x0 0).bind fun bt159 => (some (bt159.1, bt159.2.1, bt159.2.2)))
end
def stencilref01_Decode.f (k : Nat) (l0 : List Int) : Option (ByteArray × Int × Int) := if (l0.length : Int) > 32768 then (some ((⟨#[]⟩ : ByteArray), 6, 0)) else (if (l0.length : Int) ≥ 2 then (if 0 < (l0.length : Int) then (if (rd l0 0) = 254 then (if 1 < (l0.length : Int) then (stencilref01_Decode.j0 k l0 ((rd l0 1) == 255)) else (none)) else (stencilref01_Decode.j0 k l0 false)) else (none)) else (stencilref01_Decode.j0 k l0 false))
theorem stencilref01_Decode.mono_l : ∀ k, (∀ y0 y1, LeO (stencilref01_Decode.j0 k y0 y1) (stencilref01_Decode.j0 (k + 1) y0 y1)) ∧ (∀ y0 y1, LeO (stencilref01_Decode.j1 k y0 y1) (stencilref01_Decode.j1 (k + 1) y0 y1)) ∧ (∀ y0 y1, LeO (stencilref01_Decode.j2 k y0 y1) (stencilref01_Decode.j2 (k + 1) y0 y1))
  | 0 => ⟨fun _ _ r h => by simp [stencilref01_Decode.j0] at h, fun _ _ r h => by simp [stencilref01_Decode.j1] at h, fun _ _ r h => by simp [stencilref01_Decode.j2] at h⟩
  | k + 1 => by
    obtain ⟨ih0, ih1, ih2⟩ := stencilref01_Decode.mono_l k
    refine ⟨?_, ?_, ?_⟩
    · intro y0 y1
      unfold stencilref01_Decode.j0
      repeat' first
      | (with_reducible exact ih0 _ _)
      | (with_reducible exact ih1 _ _)
      | (with_reducible exact ih2 _ _)
      | (with_reducible exact stencilref01_narrow.mono _ _ _)
      | (with_reducible exact stencilref01_wide.mono _ _ _)
      | (with_reducible exact LeO.refl _)
      | (with_reducible exact LeO.none _)
      | (with_reducible refine LeO.ite ?_ ?_)
      | (with_reducible refine LeO.bind ?_ (fun _ => ?_))
      | exact ih0 _ _
      | exact ih1 _ _
      | exact ih2 _ _
      | exact stencilref01_narrow.mono _ _ _
      | exact stencilref01_wide.mono _ _ _
      | exact LeO.none _
      | refine LeO.ite ?_ ?_
      | refine LeO.bind ?_ (fun _ => ?_)
    · intro y0 y1
      unfold stencilref01_Decode.j1
      repeat' first
      | (with_reducible exact ih0 _ _)
      | (with_reducible exact ih1 _ _)
      | (with_reducible exact ih2 _ _)
      | (with_reducible exact stencilref01_narrow.mono _ _ _)
      | (with_reducible exact stencilref01_wide.mono _ _ _)
      | (with_reducible exact LeO.refl _)
      | (with_reducible exact LeO.none _)
      | (with_reducible refine LeO.ite ?_ ?_)
      | (with_reducible refine LeO.bind ?_ (fun _ => ?_))
      | exact ih0 _ _
      | exact ih1 _ _
      | exact ih2 _ _
      | exact stencilref01_narrow.mono _ _ _
      | exact stencilref01_wide.mono _ _ _
      | exact LeO.none _
      | refine LeO.ite ?_ ?_
      | refine LeO.bind ?_ (fun _ => ?_)
    · intro y0 y1
      unfold stencilref01_Decode.j2
      repeat' first
      | (with_reducible exact ih0 _ _)
      | (with_reducible exact ih1 _ _)
      | (with_reducible exact ih2 _ _)
      | (with_reducible exact stencilref01_narrow.mono _ _ _)
      | (with_reducible exact stencilref01_wide.mono _ _ _)
      | (with_reducible exact LeO.refl _)
      | (with_reducible exact LeO.none _)
      | (with_reducible refine LeO.ite ?_ ?_)
      | (with_reducible refine LeO.bind ?_ (fun _ => ?_))
      | exact ih0 _ _
      | exact ih1 _ _
      | exact ih2 _ _
      | exact stencilref01_narrow.mono _ _ _
      | exact stencilref01_wide.mono _ _ _
      | exact LeO.none _
      | refine LeO.ite ?_ ?_
      | refine LeO.bind ?_ (fun _ => ?_)
theorem stencilref01_Decode.mono : ∀ a0 k, LeO (stencilref01_Decode.f k a0) (stencilref01_Decode.f (k + 1) a0) := by
  intro a0 k
  obtain ⟨ih0, ih1, ih2⟩ := stencilref01_Decode.mono_l k
  unfold stencilref01_Decode.f
  repeat' first
      | (with_reducible exact ih0 _ _)
      | (with_reducible exact ih1 _ _)
      | (with_reducible exact ih2 _ _)
      | (with_reducible exact stencilref01_narrow.mono _ _ _)
      | (with_reducible exact stencilref01_wide.mono _ _ _)
      | (with_reducible exact LeO.refl _)
      | (with_reducible exact LeO.none _)
      | (with_reducible refine LeO.ite ?_ ?_)
      | (with_reducible refine LeO.bind ?_ (fun _ => ?_))
      | exact ih0 _ _
      | exact ih1 _ _
      | exact ih2 _ _
      | exact stencilref01_narrow.mono _ _ _
      | exact stencilref01_wide.mono _ _ _
      | exact LeO.none _
      | refine LeO.ite ?_ ?_
      | refine LeO.bind ?_ (fun _ => ?_)
set_option maxHeartbeats 8000000 in
set_option maxRecDepth 100000 in
theorem stencilref01_Decode.calls (k : Nat) (A0 : Option Addr) (c0 : Nat) (l0 : List Int) (r1 : ByteArray) (r2 : Int) (r3 : Int) (w : World) (hr0 : Kd.C (Kd.int .u8) w A0 l0.length l0) (hc0 : l0.length ≤ c0) (HLD : Laid w) (h : stencilref01_Decode.f k l0 = some (r1, r2, r3)) :
    Calls Tryd.prog 27 #[.slice A0 l0.length c0] w fun e w' => e = .returned (.tuple #[.string r1, .int .i64 r2, .int .i64 r3]) ∧ Below w.heap.size w w' := by
  have HR0 := Aside0.mk hr0
  have HC0 := Aside0.mk hc0
  clear hr0 hc0
  have HB := Aside0.mk (Below.refl w.heap.size w)
  have H : (if (l0.length : Int) > 32768 then (some ((⟨#[]⟩ : ByteArray), 6, 0)) else (if (l0.length : Int) ≥ 2 then (if 0 < (l0.length : Int) then (if (rd l0 0) = 254 then (if 1 < (l0.length : Int) then (stencilref01_Decode.j0 k l0 ((rd l0 1) == 255)) else (none)) else (stencilref01_Decode.j0 k l0 false)) else (none)) else (stencilref01_Decode.j0 k l0 false))) = some (r1, r2, r3) := h
  clear h
  by_cases c2 : (l0.length : Int) > 32768
  · rw [if_pos c2] at H
    have c2b0 : decide (32768 < (l0.length : Int)) = true := decide_eq_true c2
    have c2b1 : decide (32768 < l0.length) = true := decide_eq_true (by omega)
    clear c2
    simp only [Option.some.injEq, Prod.mk.injEq] at H
    obtain ⟨rfl, rfl, rfl⟩ := H
    go_enter Tryd.func27, Tryd.ntmps27
    go_wp2
    go_ret3
    exact ⟨by first | rfl | (simp [errW_none, errW_some] <;> rfl) | (simp [*, errW_none, errW_some] <;> rfl), by repeat (first | (with_reducible first | exact HB.out | apply below_alloc | apply pw_below_drewN | apply below_drew1) | exact HB.out)⟩
  · rw [if_neg c2] at H
    have c2b0 : decide (32768 < (l0.length : Int)) = false := decide_eq_false c2
    have c2b1 : decide (32768 < l0.length) = false := decide_eq_false (by omega)
    clear c2
    have HC3 := Aside0.mk H
    clear H
    go_enter Tryd.func27, Tryd.ntmps27
    go_upto_region 3 with (fail)
    go_cut [9] (fun v9 wc => ∃ (kq : Nat) (x9_2 : Bool), v9 = .bool x9_2 ∧ Aside0 (stencilref01_Decode.j0 kq l0 x9_2 = some (r1, r2, r3)) ∧ Aside0 (kq ≤ k) ∧ Aside0 (Below w.heap.size w wc))
    case first =>
      have H := HC3.out
      clear HC3
      by_cases c4 : (l0.length : Int) ≥ 2
      · rw [if_pos c4] at H
        have c4b0 : decide (2 ≤ (l0.length : Int)) = true := decide_eq_true c4
        have c4b1 : decide (2 ≤ l0.length) = true := decide_eq_true (by omega)
        clear c4
        (first | rw [c4b0] | (simp only [i64_w, i32_w]; rw [c4b0]) | skip)
        by_cases c5 : 0 < (l0.length : Int)
        · rw [if_pos c5] at H
          have c5b0 : decide (0 < (l0.length : Int)) = true := decide_eq_true c5
          have c5b1 : decide (0 < l0.length) = true := decide_eq_true (by omega)
          clear c5
          by_cases c6 : (rd l0 0) = 254
          · rw [if_pos c6] at H
            have c6b0 : ((rd l0 0) == 254) = true := beq_iff_eq.mpr c6
            have c6b1 : ((rd l0 0) != 254) = false := bne_eq_false_iff_eq.mpr c6
            clear c6
            by_cases c7 : 1 < (l0.length : Int)
            · rw [if_pos c7] at H
              have c7b0 : decide (1 < (l0.length : Int)) = true := decide_eq_true c7
              have c7b1 : decide (1 < l0.length) = true := decide_eq_true (by omega)
              clear c7
              have H' := Aside0.mk H
              clear H
              have p143 : 0 ≤ (0 : Int) := (by omega)
              have q143 : 0 < (l0.length : Int) := of_decide_eq_true (by first | (with_reducible assumption) | assumption)
              obtain ⟨ad143, e143, hx143_0⟩ := Kd.at_int HR0.out 0 p143 q143
              cases e143
              have qi143 : (0 < l0.length) = True := eq_true (by omega)
              (try rw [show ((0 : Int)).toNat = 0 from rfl] at hx143_0)
              (try rw [Addr.add_zero'] at hx143_0)
              replace hx143_0 := (HB.out.cell (World.block_lt_of_cell? w _ hx143_0)).trans hx143_0
              replace p143 := eq_true p143
              replace q143 := eq_true q143
              have p144 : 0 ≤ (1 : Int) := (by omega)
              have q144 : 1 < (l0.length : Int) := of_decide_eq_true (by first | (with_reducible assumption) | assumption)
              obtain ⟨ad144, e144, hx144_0⟩ := Kd.at_int HR0.out 1 p144 q144
              obtain rfl : ad143 = ad144 := (by injection e144)
              (try simp only [show (1 : Int).toNat = 1 from rfl, Nat.reduceMul, Nat.reduceEqDiff, Go.Addr.add, ↓reduceIte] at hx144_0)
              have qi144 : (1 < l0.length) = True := eq_true (by omega)
              (try rw [show ((1 : Int)).toNat = 1 from rfl] at hx144_0)
              replace hx144_0 := (HB.out.cell (World.block_lt_of_cell? w _ hx144_0)).trans hx144_0
              replace p144 := eq_true p144
              replace q144 := eq_true q144
              go_wp2
              go_meet
              case rel => exact ⟨_, (((rd l0 1) == 255)), (by first | rfl | (simp; done) | (simp [*]; done)), H', ⟨by first | omega | exact Nat.le_refl _⟩, ⟨by repeat (first | (with_reducible first | exact HB.out | apply below_alloc | apply pw_below_drewN | apply below_drew1) | exact HB.out)⟩⟩
            · rw [if_neg c7] at H
              exact absurd H (by simp)
          · rw [if_neg c6] at H
            have c6b0 : ((rd l0 0) == 254) = false := beq_eq_false_iff_ne.mpr c6
            have c6b1 : ((rd l0 0) != 254) = true := bne_iff_ne.mpr c6
            have H' := Aside0.mk H
            clear H
            have p143 : 0 ≤ (0 : Int) := (by omega)
            have q143 : 0 < (l0.length : Int) := of_decide_eq_true (by first | (with_reducible assumption) | assumption)
            obtain ⟨ad143, e143, hx143_0⟩ := Kd.at_int HR0.out 0 p143 q143
            cases e143
            have qi143 : (0 < l0.length) = True := eq_true (by omega)
            (try rw [show ((0 : Int)).toNat = 0 from rfl] at hx143_0)
            (try rw [Addr.add_zero'] at hx143_0)
            replace hx143_0 := (HB.out.cell (World.block_lt_of_cell? w _ hx143_0)).trans hx143_0
            replace p143 := eq_true p143
            replace q143 := eq_true q143
            go_wp2
            go_meet
            case rel => exact ⟨_, (false), (by first | rfl | (simp; done) | (simp [*]; done)), H', ⟨by first | omega | exact Nat.le_refl _⟩, ⟨by repeat (first | (with_reducible first | exact HB.out | apply below_alloc | apply pw_below_drewN | apply below_drew1) | exact HB.out)⟩⟩
        · rw [if_neg c5] at H
          exact absurd H (by simp)
      · rw [if_neg c4] at H
        have c4b0 : decide (2 ≤ (l0.length : Int)) = false := decide_eq_false c4
        have c4b1 : decide (2 ≤ l0.length) = false := decide_eq_false (by omega)
        clear c4
        (first | rw [c4b0] | (simp only [i64_w, i32_w]; rw [c4b0]) | skip)
        have H' := Aside0.mk H
        clear H
        go_wp2
        go_meet
        case rel => exact ⟨_, (false), (by first | rfl | (simp; done) | (simp [*]; done)), H', ⟨by first | omega | exact Nat.le_refl _⟩, ⟨by repeat (first | (with_reducible first | exact HB.out | apply below_alloc | apply pw_below_drewN | apply below_drew1) | exact HB.out)⟩⟩
    case rest =>
      clear HC3
      try clear p1
      try clear q1
      try clear hx1
      try clear qi1
      try clear c2
      try clear c2b0
      try clear c2b1
      try clear p2
      try clear c4
      try clear c4b0
      try clear c4b1
      try clear c5
      try clear c5b0
      try clear c5b1
      try clear c6
      try clear c6b0
      try clear c6b1
      try clear c7
      try clear c7b0
      try clear c7b1
      try clear hx143_0
      try clear hx144_0
      try clear p143
      try clear p144
      try clear q143
      try clear q144
      obtain ⟨kq, x9_2, rfl, HA, HJ2, HB⟩ := hcut
      cases kq with
      | zero => exact absurd HA.out (by simp [stencilref01_Decode.j0])
      | succ kj2 =>
        have H := HA.out
        clear HA
        simp only [stencilref01_Decode.j0] at H
        by_cases c8 : x9_2 = true
        · subst c8
          have H1 : ((stencilref01_wide.f kj2 l0 0).bind fun bt145 => (some (bt145.1, bt145.2.1, bt145.2.2))) = some (r1, r2, r3) := by rw [if_pos rfl] at H; exact H
          clear H
          have H := H1
          clear H1
          replace H := Option.bind_eq_some_iff.mp H
          obtain ⟨⟨t145, t146, t147⟩, A90, H⟩ := H
          replace H : (some (t145, t146, t147)) = some (r1, r2, r3) := H
          have A9 := Aside0.mk A90
          clear A90
          simp only [Option.some.injEq, Prod.mk.injEq] at H
          obtain ⟨rfl, rfl, rfl⟩ := H
          go_wp2_with (first | ((with_reducible refine gate_callee (f := 61) rfl ?_); refine goesL_ (some 26) rfl rfl Tryd.func61 (by kernel_rfl) rfl #[.slice A0 l0.length c0, .int .i64 0] rfl (by (try simp only [List.map_toArray, List.map_cons, List.map_nil]); first | done | rfl | (simp only [List.length_drop, List.length_take]; rfl)) ?_; (with_reducible refine (stencilref01_wide.calls kj2 _ _ l0 0 t145 t146 t147 _ ?side1 ?side2 ?side3 A9.out).mono ?_); (case side1 => repeat (first | exact (Kd.C_below HR0.out HB.out) | (with_reducible refine Kd.C_alloc ?_ _) | (with_reducible refine Kd.C_drewN ?_ _) | (with_reducible refine Kd.C_drew ?_))); (case side2 => exact HC0.out); (case side3 => first | exact HLD | exact Laid.below HLD (by repeat (first | (with_reducible first | exact HB.out | apply below_alloc | apply pw_below_drewN | apply below_drew1) | exact HB.out))); rintro e w10 ⟨rfl, hb⟩; refine ⟨_, rfl, ?_⟩; have n0_ := Aside0.mk (below_step (by repeat (first | (with_reducible first | exact HB.out | apply below_alloc | apply pw_below_drewN | apply below_drew1) | exact HB.out)) hb); clear HB; have HB := n0_; clear n0_; (try clear hb); (try clear hb2); (try clear hk); (try clear hi)))
          go_ret3
          exact ⟨by first | rfl | (simp [errW_none, errW_some] <;> rfl) | (simp [*, errW_none, errW_some] <;> rfl), by repeat (first | (with_reducible first | exact HB.out | apply below_alloc | apply pw_below_drewN | apply below_drew1) | exact HB.out)⟩
        · replace c8 := Bool.eq_false_iff.mpr c8
          subst c8
          have H1 : (if (l0.length : Int) ≥ 2 then (if 0 < (l0.length : Int) then (if (rd l0 0) = 255 then (if 1 < (l0.length : Int) then (stencilref01_Decode.j1 kj2 l0 ((rd l0 1) == 254)) else (none)) else (stencilref01_Decode.j1 kj2 l0 false)) else (none)) else (stencilref01_Decode.j1 kj2 l0 false)) = some (r1, r2, r3) := by rw [if_neg (show ¬ (false = true) by decide)] at H; exact H
          clear H
          have H := H1
          clear H1
          have HC11 := Aside0.mk H
          clear H
          go_upto_region 5 with (fail)
          go_cut [30] (fun v30 wc => ∃ (kq : Nat) (x30_10 : Bool), v30 = .bool x30_10 ∧ Aside0 (stencilref01_Decode.j1 kq l0 x30_10 = some (r1, r2, r3)) ∧ Aside0 (kq ≤ kj2) ∧ Aside0 (Below w.heap.size w wc))
          case first =>
            have H := HC11.out
            clear HC11
            by_cases c12 : (l0.length : Int) ≥ 2
            · rw [if_pos c12] at H
              have c12b0 : decide (2 ≤ (l0.length : Int)) = true := decide_eq_true c12
              have c12b1 : decide (2 ≤ l0.length) = true := decide_eq_true (by omega)
              clear c12
              (first | rw [c12b0] | (simp only [i64_w, i32_w]; rw [c12b0]) | skip)
              by_cases c13 : 0 < (l0.length : Int)
              · rw [if_pos c13] at H
                have c13b0 : decide (0 < (l0.length : Int)) = true := decide_eq_true c13
                have c13b1 : decide (0 < l0.length) = true := decide_eq_true (by omega)
                clear c13
                by_cases c14 : (rd l0 0) = 255
                · rw [if_pos c14] at H
                  have c14b0 : ((rd l0 0) == 255) = true := beq_iff_eq.mpr c14
                  have c14b1 : ((rd l0 0) != 255) = false := bne_eq_false_iff_eq.mpr c14
                  clear c14
                  by_cases c15 : 1 < (l0.length : Int)
                  · rw [if_pos c15] at H
                    have c15b0 : decide (1 < (l0.length : Int)) = true := decide_eq_true c15
                    have c15b1 : decide (1 < l0.length) = true := decide_eq_true (by omega)
                    clear c15
                    have H' := Aside0.mk H
                    clear H
                    have p148 : 0 ≤ (0 : Int) := (by omega)
                    have q148 : 0 < (l0.length : Int) := of_decide_eq_true (by first | (with_reducible assumption) | assumption)
                    obtain ⟨ad148, e148, hx148_0⟩ := Kd.at_int HR0.out 0 p148 q148
                    cases e148
                    have qi148 : (0 < l0.length) = True := eq_true (by omega)
                    (try rw [show ((0 : Int)).toNat = 0 from rfl] at hx148_0)
                    (try rw [Addr.add_zero'] at hx148_0)
                    replace hx148_0 := (HB.out.cell (World.block_lt_of_cell? w _ hx148_0)).trans hx148_0
                    replace p148 := eq_true p148
                    replace q148 := eq_true q148
                    have p149 : 0 ≤ (1 : Int) := (by omega)
                    have q149 : 1 < (l0.length : Int) := of_decide_eq_true (by first | (with_reducible assumption) | assumption)
                    obtain ⟨ad149, e149, hx149_0⟩ := Kd.at_int HR0.out 1 p149 q149
                    obtain rfl : ad148 = ad149 := (by injection e149)
                    (try simp only [show (1 : Int).toNat = 1 from rfl, Nat.reduceMul, Nat.reduceEqDiff, Go.Addr.add, ↓reduceIte] at hx149_0)
                    have qi149 : (1 < l0.length) = True := eq_true (by omega)
                    (try rw [show ((1 : Int)).toNat = 1 from rfl] at hx149_0)
                    replace hx149_0 := (HB.out.cell (World.block_lt_of_cell? w _ hx149_0)).trans hx149_0
                    replace p149 := eq_true p149
                    replace q149 := eq_true q149
                    go_wp2
                    go_meet
                    case rel => exact ⟨_, (((rd l0 1) == 254)), (by first | rfl | (simp; done) | (simp [*]; done)), H', ⟨by have := HJ2.out; first | omega | exact Nat.le_refl _⟩, ⟨by repeat (first | (with_reducible first | exact HB.out | apply below_alloc | apply pw_below_drewN | apply below_drew1) | exact HB.out)⟩⟩
                  · rw [if_neg c15] at H
                    exact absurd H (by simp)
                · rw [if_neg c14] at H
                  have c14b0 : ((rd l0 0) == 255) = false := beq_eq_false_iff_ne.mpr c14
                  have c14b1 : ((rd l0 0) != 255) = true := bne_iff_ne.mpr c14
                  have H' := Aside0.mk H
                  clear H
                  have p148 : 0 ≤ (0 : Int) := (by omega)
                  have q148 : 0 < (l0.length : Int) := of_decide_eq_true (by first | (with_reducible assumption) | assumption)
                  obtain ⟨ad148, e148, hx148_0⟩ := Kd.at_int HR0.out 0 p148 q148
                  cases e148
                  have qi148 : (0 < l0.length) = True := eq_true (by omega)
                  (try rw [show ((0 : Int)).toNat = 0 from rfl] at hx148_0)
                  (try rw [Addr.add_zero'] at hx148_0)
                  replace hx148_0 := (HB.out.cell (World.block_lt_of_cell? w _ hx148_0)).trans hx148_0
                  replace p148 := eq_true p148
                  replace q148 := eq_true q148
                  go_wp2
                  go_meet
                  case rel => exact ⟨_, (false), (by first | rfl | (simp; done) | (simp [*]; done)), H', ⟨by have := HJ2.out; first | omega | exact Nat.le_refl _⟩, ⟨by repeat (first | (with_reducible first | exact HB.out | apply below_alloc | apply pw_below_drewN | apply below_drew1) | exact HB.out)⟩⟩
              · rw [if_neg c13] at H
                exact absurd H (by simp)
            · rw [if_neg c12] at H
              have c12b0 : decide (2 ≤ (l0.length : Int)) = false := decide_eq_false c12
              have c12b1 : decide (2 ≤ l0.length) = false := decide_eq_false (by omega)
              clear c12
              (first | rw [c12b0] | (simp only [i64_w, i32_w]; rw [c12b0]) | skip)
              have H' := Aside0.mk H
              clear H
              go_wp2
              go_meet
              case rel => exact ⟨_, (false), (by first | rfl | (simp; done) | (simp [*]; done)), H', ⟨by have := HJ2.out; first | omega | exact Nat.le_refl _⟩, ⟨by repeat (first | (with_reducible first | exact HB.out | apply below_alloc | apply pw_below_drewN | apply below_drew1) | exact HB.out)⟩⟩
          case rest =>
            clear HC11
            try clear c1
            try clear p1
            try clear q1
            try clear hx1
            try clear qi1
            try clear c2
            try clear c2b0
            try clear c2b1
            try clear p2
            try clear c4
            try clear c4b0
            try clear c4b1
            try clear c5
            try clear c5b0
            try clear c5b1
            try clear c6
            try clear c6b0
            try clear c6b1
            try clear c7
            try clear c7b0
            try clear c7b1
            try clear c8
            try clear c12
            try clear c12b0
            try clear c12b1
            try clear c13
            try clear c13b0
            try clear c13b1
            try clear c14
            try clear c14b0
            try clear c14b1
            try clear p14
            try clear q14
            try clear hx14
            try clear qi14
            try clear c15
            try clear c15b0
            try clear c15b1
            try clear hx143_0
            try clear hx144_0
            try clear hx148_0
            try clear hx149_0
            try clear p1
            try clear p143
            try clear p144
            try clear p148
            try clear p149
            try clear p2
            try clear q1
            try clear q143
            try clear q144
            try clear q148
            try clear q149
            obtain ⟨kq, x30_10, rfl, HA, HJ10, HB⟩ := hcut
            cases kq with
            | zero => exact absurd HA.out (by simp [stencilref01_Decode.j1])
            | succ kj10 =>
              have H := HA.out
              clear HA
              simp only [stencilref01_Decode.j1] at H
              by_cases c16 : x30_10 = true
              · subst c16
                have H1 : ((stencilref01_wide.f kj10 l0 1).bind fun bt150 => (some (bt150.1, bt150.2.1, bt150.2.2))) = some (r1, r2, r3) := by rw [if_pos rfl] at H; exact H
                clear H
                have H := H1
                clear H1
                replace H := Option.bind_eq_some_iff.mp H
                obtain ⟨⟨t150, t151, t152⟩, A170, H⟩ := H
                replace H : (some (t150, t151, t152)) = some (r1, r2, r3) := H
                have A17 := Aside0.mk A170
                clear A170
                simp only [Option.some.injEq, Prod.mk.injEq] at H
                obtain ⟨rfl, rfl, rfl⟩ := H
                go_wp2_with (first | ((with_reducible refine gate_callee (f := 61) rfl ?_); refine goesL_ (some 47) rfl rfl Tryd.func61 (by kernel_rfl) rfl #[.slice A0 l0.length c0, .int .i64 1] rfl (by (try simp only [List.map_toArray, List.map_cons, List.map_nil]); first | done | rfl | (simp only [List.length_drop, List.length_take]; rfl)) ?_; (with_reducible refine (stencilref01_wide.calls kj10 _ _ l0 1 t150 t151 t152 _ ?side1 ?side2 ?side3 A17.out).mono ?_); (case side1 => repeat (first | exact (Kd.C_below HR0.out HB.out) | (with_reducible refine Kd.C_alloc ?_ _) | (with_reducible refine Kd.C_drewN ?_ _) | (with_reducible refine Kd.C_drew ?_))); (case side2 => exact HC0.out); (case side3 => first | exact HLD | exact Laid.below HLD (by repeat (first | (with_reducible first | exact HB.out | apply below_alloc | apply pw_below_drewN | apply below_drew1) | exact HB.out))); rintro e w18 ⟨rfl, hb⟩; refine ⟨_, rfl, ?_⟩; have n0_ := Aside0.mk (below_step (by repeat (first | (with_reducible first | exact HB.out | apply below_alloc | apply pw_below_drewN | apply below_drew1) | exact HB.out)) hb); clear HB; have HB := n0_; clear n0_; (try clear hb); (try clear hb2); (try clear hk); (try clear hi)))
                go_ret3
                exact ⟨by first | rfl | (simp [errW_none, errW_some] <;> rfl) | (simp [*, errW_none, errW_some] <;> rfl), by repeat (first | (with_reducible first | exact HB.out | apply below_alloc | apply pw_below_drewN | apply below_drew1) | exact HB.out)⟩
              · replace c16 := Bool.eq_false_iff.mpr c16
                subst c16
                have H1 : (if (l0.length : Int) ≥ 3 then (if 0 < (l0.length : Int) then (if (rd l0 0) = 239 then (if 1 < (l0.length : Int) then (if (rd l0 1) = 187 then (if 2 < (l0.length : Int) then (stencilref01_Decode.j2 kj10 l0 ((rd l0 2) == 191)) else (none)) else (stencilref01_Decode.j2 kj10 l0 false)) else (none)) else (stencilref01_Decode.j2 kj10 l0 false)) else (none)) else (stencilref01_Decode.j2 kj10 l0 false)) = some (r1, r2, r3) := by rw [if_neg (show ¬ (false = true) by decide)] at H; exact H
                clear H
                have H := H1
                clear H1
                have HC19 := Aside0.mk H
                clear H
                go_upto_region 7 with (fail)
                go_cut [51] (fun v51 wc => ∃ (kq : Nat) (x51_18 : Bool), v51 = .bool x51_18 ∧ Aside0 (stencilref01_Decode.j2 kq l0 x51_18 = some (r1, r2, r3)) ∧ Aside0 (kq ≤ kj10) ∧ Aside0 (Below w.heap.size w wc))
                case first =>
                  have H := HC19.out
                  clear HC19
                  by_cases c20 : (l0.length : Int) ≥ 3
                  · rw [if_pos c20] at H
                    have c20b0 : decide (3 ≤ (l0.length : Int)) = true := decide_eq_true c20
                    have c20b1 : decide (3 ≤ l0.length) = true := decide_eq_true (by omega)
                    clear c20
                    (first | rw [c20b0] | (simp only [i64_w, i32_w]; rw [c20b0]) | skip)
                    by_cases c21 : 0 < (l0.length : Int)
                    · rw [if_pos c21] at H
                      have c21b0 : decide (0 < (l0.length : Int)) = true := decide_eq_true c21
                      have c21b1 : decide (0 < l0.length) = true := decide_eq_true (by omega)
                      clear c21
                      by_cases c22 : (rd l0 0) = 239
                      · rw [if_pos c22] at H
                        have c22b0 : ((rd l0 0) == 239) = true := beq_iff_eq.mpr c22
                        have c22b1 : ((rd l0 0) != 239) = false := bne_eq_false_iff_eq.mpr c22
                        clear c22
                        by_cases c23 : 1 < (l0.length : Int)
                        · rw [if_pos c23] at H
                          have c23b0 : decide (1 < (l0.length : Int)) = true := decide_eq_true c23
                          have c23b1 : decide (1 < l0.length) = true := decide_eq_true (by omega)
                          clear c23
                          by_cases c24 : (rd l0 1) = 187
                          · rw [if_pos c24] at H
                            have c24b0 : ((rd l0 1) == 187) = true := beq_iff_eq.mpr c24
                            have c24b1 : ((rd l0 1) != 187) = false := bne_eq_false_iff_eq.mpr c24
                            clear c24
                            by_cases c25 : 2 < (l0.length : Int)
                            · rw [if_pos c25] at H
                              have c25b0 : decide (2 < (l0.length : Int)) = true := decide_eq_true c25
                              have c25b1 : decide (2 < l0.length) = true := decide_eq_true (by omega)
                              clear c25
                              have H' := Aside0.mk H
                              clear H
                              have p153 : 0 ≤ (0 : Int) := (by omega)
                              have q153 : 0 < (l0.length : Int) := of_decide_eq_true (by first | (with_reducible assumption) | assumption)
                              obtain ⟨ad153, e153, hx153_0⟩ := Kd.at_int HR0.out 0 p153 q153
                              cases e153
                              have qi153 : (0 < l0.length) = True := eq_true (by omega)
                              (try rw [show ((0 : Int)).toNat = 0 from rfl] at hx153_0)
                              (try rw [Addr.add_zero'] at hx153_0)
                              replace hx153_0 := (HB.out.cell (World.block_lt_of_cell? w _ hx153_0)).trans hx153_0
                              replace p153 := eq_true p153
                              replace q153 := eq_true q153
                              have p154 : 0 ≤ (1 : Int) := (by omega)
                              have q154 : 1 < (l0.length : Int) := of_decide_eq_true (by first | (with_reducible assumption) | assumption)
                              obtain ⟨ad154, e154, hx154_0⟩ := Kd.at_int HR0.out 1 p154 q154
                              obtain rfl : ad153 = ad154 := (by injection e154)
                              (try simp only [show (1 : Int).toNat = 1 from rfl, Nat.reduceMul, Nat.reduceEqDiff, Go.Addr.add, ↓reduceIte] at hx154_0)
                              have qi154 : (1 < l0.length) = True := eq_true (by omega)
                              (try rw [show ((1 : Int)).toNat = 1 from rfl] at hx154_0)
                              replace hx154_0 := (HB.out.cell (World.block_lt_of_cell? w _ hx154_0)).trans hx154_0
                              replace p154 := eq_true p154
                              replace q154 := eq_true q154
                              have p155 : 0 ≤ (2 : Int) := (by omega)
                              have q155 : 2 < (l0.length : Int) := of_decide_eq_true (by first | (with_reducible assumption) | assumption)
                              obtain ⟨ad155, e155, hx155_0⟩ := Kd.at_int HR0.out 2 p155 q155
                              obtain rfl : ad153 = ad155 := (by injection e155)
                              (try simp only [show (2 : Int).toNat = 2 from rfl, Nat.reduceMul, Nat.reduceEqDiff, Go.Addr.add, ↓reduceIte] at hx155_0)
                              have qi155 : (2 < l0.length) = True := eq_true (by omega)
                              (try rw [show ((2 : Int)).toNat = 2 from rfl] at hx155_0)
                              replace hx155_0 := (HB.out.cell (World.block_lt_of_cell? w _ hx155_0)).trans hx155_0
                              replace p155 := eq_true p155
                              replace q155 := eq_true q155
                              go_wp2
                              go_meet
                              case rel => exact ⟨_, (((rd l0 2) == 191)), (by first | rfl | (simp; done) | (simp [*]; done)), H', ⟨by have := HJ2.out; have := HJ10.out; first | omega | exact Nat.le_refl _⟩, ⟨by repeat (first | (with_reducible first | exact HB.out | apply below_alloc | apply pw_below_drewN | apply below_drew1) | exact HB.out)⟩⟩
                            · rw [if_neg c25] at H
                              exact absurd H (by simp)
                          · rw [if_neg c24] at H
                            have c24b0 : ((rd l0 1) == 187) = false := beq_eq_false_iff_ne.mpr c24
                            have c24b1 : ((rd l0 1) != 187) = true := bne_iff_ne.mpr c24
                            have H' := Aside0.mk H
                            clear H
                            have p153 : 0 ≤ (0 : Int) := (by omega)
                            have q153 : 0 < (l0.length : Int) := of_decide_eq_true (by first | (with_reducible assumption) | assumption)
                            obtain ⟨ad153, e153, hx153_0⟩ := Kd.at_int HR0.out 0 p153 q153
                            cases e153
                            have qi153 : (0 < l0.length) = True := eq_true (by omega)
                            (try rw [show ((0 : Int)).toNat = 0 from rfl] at hx153_0)
                            (try rw [Addr.add_zero'] at hx153_0)
                            replace hx153_0 := (HB.out.cell (World.block_lt_of_cell? w _ hx153_0)).trans hx153_0
                            replace p153 := eq_true p153
                            replace q153 := eq_true q153
                            have p154 : 0 ≤ (1 : Int) := (by omega)
                            have q154 : 1 < (l0.length : Int) := of_decide_eq_true (by first | (with_reducible assumption) | assumption)
                            obtain ⟨ad154, e154, hx154_0⟩ := Kd.at_int HR0.out 1 p154 q154
                            obtain rfl : ad153 = ad154 := (by injection e154)
                            (try simp only [show (1 : Int).toNat = 1 from rfl, Nat.reduceMul, Nat.reduceEqDiff, Go.Addr.add, ↓reduceIte] at hx154_0)
                            have qi154 : (1 < l0.length) = True := eq_true (by omega)
                            (try rw [show ((1 : Int)).toNat = 1 from rfl] at hx154_0)
                            replace hx154_0 := (HB.out.cell (World.block_lt_of_cell? w _ hx154_0)).trans hx154_0
                            replace p154 := eq_true p154
                            replace q154 := eq_true q154
                            go_wp2
                            go_meet
                            case rel => exact ⟨_, (false), (by first | rfl | (simp; done) | (simp [*]; done)), H', ⟨by have := HJ2.out; have := HJ10.out; first | omega | exact Nat.le_refl _⟩, ⟨by repeat (first | (with_reducible first | exact HB.out | apply below_alloc | apply pw_below_drewN | apply below_drew1) | exact HB.out)⟩⟩
                        · rw [if_neg c23] at H
                          exact absurd H (by simp)
                      · rw [if_neg c22] at H
                        have c22b0 : ((rd l0 0) == 239) = false := beq_eq_false_iff_ne.mpr c22
                        have c22b1 : ((rd l0 0) != 239) = true := bne_iff_ne.mpr c22
                        have H' := Aside0.mk H
                        clear H
                        have p153 : 0 ≤ (0 : Int) := (by omega)
                        have q153 : 0 < (l0.length : Int) := of_decide_eq_true (by first | (with_reducible assumption) | assumption)
                        obtain ⟨ad153, e153, hx153_0⟩ := Kd.at_int HR0.out 0 p153 q153
                        cases e153
                        have qi153 : (0 < l0.length) = True := eq_true (by omega)
                        (try rw [show ((0 : Int)).toNat = 0 from rfl] at hx153_0)
                        (try rw [Addr.add_zero'] at hx153_0)
                        replace hx153_0 := (HB.out.cell (World.block_lt_of_cell? w _ hx153_0)).trans hx153_0
                        replace p153 := eq_true p153
                        replace q153 := eq_true q153
                        go_wp2
                        go_meet
                        case rel => exact ⟨_, (false), (by first | rfl | (simp; done) | (simp [*]; done)), H', ⟨by have := HJ2.out; have := HJ10.out; first | omega | exact Nat.le_refl _⟩, ⟨by repeat (first | (with_reducible first | exact HB.out | apply below_alloc | apply pw_below_drewN | apply below_drew1) | exact HB.out)⟩⟩
                    · rw [if_neg c21] at H
                      exact absurd H (by simp)
                  · rw [if_neg c20] at H
                    have c20b0 : decide (3 ≤ (l0.length : Int)) = false := decide_eq_false c20
                    have c20b1 : decide (3 ≤ l0.length) = false := decide_eq_false (by omega)
                    clear c20
                    (first | rw [c20b0] | (simp only [i64_w, i32_w]; rw [c20b0]) | skip)
                    have H' := Aside0.mk H
                    clear H
                    go_wp2
                    go_meet
                    case rel => exact ⟨_, (false), (by first | rfl | (simp; done) | (simp [*]; done)), H', ⟨by have := HJ2.out; have := HJ10.out; first | omega | exact Nat.le_refl _⟩, ⟨by repeat (first | (with_reducible first | exact HB.out | apply below_alloc | apply pw_below_drewN | apply below_drew1) | exact HB.out)⟩⟩
                case rest =>
                  clear HC19
                  try clear c1
                  try clear p1
                  try clear q1
                  try clear hx1
                  try clear qi1
                  try clear c2
                  try clear c2b0
                  try clear c2b1
                  try clear p2
                  try clear c4
                  try clear c4b0
                  try clear c4b1
                  try clear c5
                  try clear c5b0
                  try clear c5b1
                  try clear c6
                  try clear c6b0
                  try clear c6b1
                  try clear c7
                  try clear c7b0
                  try clear c7b1
                  try clear c8
                  try clear c12
                  try clear c12b0
                  try clear c12b1
                  try clear c13
                  try clear c13b0
                  try clear c13b1
                  try clear c14
                  try clear c14b0
                  try clear c14b1
                  try clear p14
                  try clear q14
                  try clear hx14
                  try clear qi14
                  try clear c15
                  try clear c15b0
                  try clear c15b1
                  try clear p15
                  try clear q15
                  try clear hx15
                  try clear qi15
                  try clear c16
                  try clear c20
                  try clear c20b0
                  try clear c20b1
                  try clear c21
                  try clear c21b0
                  try clear c21b1
                  try clear c22
                  try clear c22b0
                  try clear c22b1
                  try clear c23
                  try clear c23b0
                  try clear c23b1
                  try clear c24
                  try clear c24b0
                  try clear c24b1
                  try clear c25
                  try clear c25b0
                  try clear c25b1
                  try clear hx143_0
                  try clear hx144_0
                  try clear hx148_0
                  try clear hx149_0
                  try clear hx153_0
                  try clear hx154_0
                  try clear hx155_0
                  try clear p1
                  try clear p14
                  try clear p143
                  try clear p144
                  try clear p148
                  try clear p149
                  try clear p153
                  try clear p154
                  try clear p155
                  try clear p2
                  try clear q1
                  try clear q14
                  try clear q143
                  try clear q144
                  try clear q148
                  try clear q149
                  try clear q153
                  try clear q154
                  try clear q155
                  obtain ⟨kq, x51_18, rfl, HA, HJ18, HB⟩ := hcut
                  cases kq with
                  | zero => exact absurd HA.out (by simp [stencilref01_Decode.j2])
                  | succ kj18 =>
                    have H := HA.out
                    clear HA
                    simp only [stencilref01_Decode.j2] at H
                    by_cases c26 : x51_18 = true
                    · subst c26
                      have H1 : ((stencilref01_narrow.f kj18 l0 3).bind fun bt156 => (some (bt156.1, bt156.2.1, bt156.2.2))) = some (r1, r2, r3) := by rw [if_pos rfl] at H; exact H
                      clear H
                      have H := H1
                      clear H1
                      replace H := Option.bind_eq_some_iff.mp H
                      obtain ⟨⟨t156, t157, t158⟩, A270, H⟩ := H
                      replace H : (some (t156, t157, t158)) = some (r1, r2, r3) := H
                      have A27 := Aside0.mk A270
                      clear A270
                      simp only [Option.some.injEq, Prod.mk.injEq] at H
                      obtain ⟨rfl, rfl, rfl⟩ := H
                      go_wp2_with (first | ((with_reducible refine gate_callee (f := 62) rfl ?_); refine goesL_ (some 74) rfl rfl Tryd.func62 (by kernel_rfl) rfl #[.slice A0 l0.length c0, .int .i64 3] rfl (by (try simp only [List.map_toArray, List.map_cons, List.map_nil]); first | done | rfl | (simp only [List.length_drop, List.length_take]; rfl)) ?_; (with_reducible refine (stencilref01_narrow.calls kj18 _ _ l0 3 t156 t157 t158 _ ?side1 ?side2 ?side3 A27.out).mono ?_); (case side1 => repeat (first | exact (Kd.C_below HR0.out HB.out) | (with_reducible refine Kd.C_alloc ?_ _) | (with_reducible refine Kd.C_drewN ?_ _) | (with_reducible refine Kd.C_drew ?_))); (case side2 => exact HC0.out); (case side3 => first | exact HLD | exact Laid.below HLD (by repeat (first | (with_reducible first | exact HB.out | apply below_alloc | apply pw_below_drewN | apply below_drew1) | exact HB.out))); rintro e w28 ⟨rfl, hb⟩; refine ⟨_, rfl, ?_⟩; have n0_ := Aside0.mk (below_step (by repeat (first | (with_reducible first | exact HB.out | apply below_alloc | apply pw_below_drewN | apply below_drew1) | exact HB.out)) hb); clear HB; have HB := n0_; clear n0_; (try clear hb); (try clear hb2); (try clear hk); (try clear hi)))
                      go_ret3
                      exact ⟨by first | rfl | (simp [errW_none, errW_some] <;> rfl) | (simp [*, errW_none, errW_some] <;> rfl), by repeat (first | (with_reducible first | exact HB.out | apply below_alloc | apply pw_below_drewN | apply below_drew1) | exact HB.out)⟩
                    · replace c26 := Bool.eq_false_iff.mpr c26
                      subst c26
                      have H1 : ((stencilref01_narrow.f kj18 l0 0).bind fun bt159 => (some (bt159.1, bt159.2.1, bt159.2.2))) = some (r1, r2, r3) := by rw [if_neg (show ¬ (false = true) by decide)] at H; exact H
                      clear H
                      have H := H1
                      clear H1
                      replace H := Option.bind_eq_some_iff.mp H
                      obtain ⟨⟨t159, t160, t161⟩, A290, H⟩ := H
                      replace H : (some (t159, t160, t161)) = some (r1, r2, r3) := H
                      have A29 := Aside0.mk A290
                      clear A290
                      simp only [Option.some.injEq, Prod.mk.injEq] at H
                      obtain ⟨rfl, rfl, rfl⟩ := H
                      go_wp2_with (first | ((with_reducible refine gate_callee (f := 62) rfl ?_); refine goesL_ (some 79) rfl rfl Tryd.func62 (by kernel_rfl) rfl #[.slice A0 l0.length c0, .int .i64 0] rfl (by (try simp only [List.map_toArray, List.map_cons, List.map_nil]); first | done | rfl | (simp only [List.length_drop, List.length_take]; rfl)) ?_; (with_reducible refine (stencilref01_narrow.calls kj18 _ _ l0 0 t159 t160 t161 _ ?side1 ?side2 ?side3 A29.out).mono ?_); (case side1 => repeat (first | exact (Kd.C_below HR0.out HB.out) | (with_reducible refine Kd.C_alloc ?_ _) | (with_reducible refine Kd.C_drewN ?_ _) | (with_reducible refine Kd.C_drew ?_))); (case side2 => exact HC0.out); (case side3 => first | exact HLD | exact Laid.below HLD (by repeat (first | (with_reducible first | exact HB.out | apply below_alloc | apply pw_below_drewN | apply below_drew1) | exact HB.out))); rintro e w30 ⟨rfl, hb⟩; refine ⟨_, rfl, ?_⟩; have n0_ := Aside0.mk (below_step (by repeat (first | (with_reducible first | exact HB.out | apply below_alloc | apply pw_below_drewN | apply below_drew1) | exact HB.out)) hb); clear HB; have HB := n0_; clear n0_; (try clear hb); (try clear hb2); (try clear hk); (try clear hi)))
                      go_ret3
                      exact ⟨by first | rfl | (simp [errW_none, errW_some] <;> rfl) | (simp [*, errW_none, errW_some] <;> rfl), by repeat (first | (with_reducible first | exact HB.out | apply below_alloc | apply pw_below_drewN | apply below_drew1) | exact HB.out)⟩

end Go.Proofs.YtinefoocajnhmaaDoor.Print
