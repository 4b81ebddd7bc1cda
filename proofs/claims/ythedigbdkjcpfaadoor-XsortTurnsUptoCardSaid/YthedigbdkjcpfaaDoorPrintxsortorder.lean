-- Laid by xprint.py (ours), out of the seat's translation; Lean checks it.
import Derived.Test.YthedigbdkjcpfaaDoorPrint0
import Derived.Test.YthedigbdkjcpfaaDoorPrintf10
import Derived.Test.YthedigbdkjcpfaaDoorPrintlibcompare
import Derived.Test.YthedigbdkjcpfaaDoorPrintf87
import Derived.Test.YthedigbdkjcpfaaDoorSub
namespace Go.Proofs.YthedigbdkjcpfaaDoor.Print
open Go.RowKit Go.Proofs.YthedigbdkjcpfaaDoorW.PrintWords Go.Proofs.YthedigbdkjcpfaaDoorW.PrintLast Go.Proofs.YthedigbdkjcpfaaDoorW.PrintMore
attribute [local go_sem] max2_int min2_int max_two min_two max_three min_three max_four min_four   -- for this text's walks alone
open Go.Proofs.YthedigbdkjcpfaaDoor.Plain
set_option linter.unusedVariables false
set_option linter.unusedSimpArgs false

-- GIVEN stencil/xsort.Order rounds making
def rd_KK (xs : List (List S41)) (i : Int) : (List S41) := xs.getD i.toNat ([] : List S41)
theorem at_KK {w : World} {A : Option Addr} {n : Nat} {xs : List (List S41)} (h : Kd.C (Kd.slice 41 k41) w A n xs) (i : Int) (h0 : 0 ≤ i) (h1 : i < n) : ∃ ad A0 c0, A = some ad ∧ w.cell? (ad.add i.toNat) = some (.slice A0 (rd_KK xs i).length c0) ∧ (rd_KK xs i).length ≤ c0 ∧ k41.C w A0 (rd_KK xs i).length (rd_KK xs i) := by
  obtain ⟨ad, c, e, _, hK, hc0⟩ := Kd.C_get h ([] : List S41) i h0 h1
  have hc : ∀ j u, c[j]? = some u → w.cell? (ad.add (i.toNat * 1 + j)) = some u := hc0
  obtain ⟨A0, c0, rfl, l0, g0⟩ := hK
  exact ⟨ad, A0, c0, e, by have hq := hc 0 _ rfl; rwa [Nat.mul_one, Nat.add_zero] at hq, l0, g0⟩
/-! ### xsort_Order1: function 26 -/
mutual
def xsort_Order1.l0 : Nat → Int → Int → List (List (S41)) → List (S41) → Int → Int → Option (Int)
  | 0, _, _, _, _, _, _ => none
  | k + 1, x0, x1, x2, x13, x14, x15 => if x15 < x14 then (if 0 ≤ x15 then (if x15 < (x13.length : Int) then (if 0 ≤ x0 then (if x0 < (x2.length : Int) then ((xsort_at.f (rd_KK x2 x0) x15).bind fun bt133 => (if 0 ≤ x1 then (if x1 < (x2.length : Int) then ((xsort_at.f (rd_KK x2 x1) x15).bind fun bt139 => ((cmp_Compare_string.f bt133.2.2.1 bt139.2.2.1).bind fun t146 => (if (rd_T41 x13 x15).f0 = true then ((xsort_numbers.f k bt133.2.2.2.1 bt133.2.2.2.2 bt139.2.2.2.1 bt139.2.2.2.2).bind fun t147 => (xsort_Order1.j1 k x0 x1 x2 t147 x13 x14 x15 ((rd_T41 x13 x15).f0) ((rd_T41 x13 x15).f1) ((rd_T41 x13 x15).f2) ((rd_T41 x13 x15).f3.f0) ((rd_T41 x13 x15).f3.f1))) else (xsort_Order1.j1 k x0 x1 x2 t146 x13 x14 x15 ((rd_T41 x13 x15).f0) ((rd_T41 x13 x15).f1) ((rd_T41 x13 x15).f2) ((rd_T41 x13 x15).f3.f0) ((rd_T41 x13 x15).f3.f1))))) else (none)) else (none))) else (none)) else (none)) else (none)) else (none)) else (some 0)
def xsort_Order1.j1 : Nat → Int → Int → List (List (S41)) → Int → List (S41) → Int → Int → Bool → Bool → ByteArray → Int → Int → Option (Int)
  | 0, _, _, _, _, _, _, _, _, _, _, _, _ => none
  | k + 1, x0, x1, x2, x10, x13, x14, x15, x132000, x132001, x132002, x132003, x132004 => if x132001 = true then (if (wrap64 (-x10)) = 0 then (xsort_Order1.l0 k x0 x1 x2 x13 x14 (wrap64 (x15 + 1))) else (some (wrap64 (-x10)))) else (if x10 = 0 then (xsort_Order1.l0 k x0 x1 x2 x13 x14 (wrap64 (x15 + 1))) else (some x10))
end
def xsort_Order1.f (k : Nat) (a0 : Int) (a1 : Int) (l2 : List (List (S41))) : Option (Int) := if 0 < (l2.length : Int) then (xsort_Order1.l0 k a0 a1 l2 (rd_KK l2 0) ((rd_KK l2 0).length : Int) 0) else (none)
theorem xsort_Order1.mono_l : ∀ k, (∀ y0 y1 y2 y3 y4 y5, LeO (xsort_Order1.l0 k y0 y1 y2 y3 y4 y5) (xsort_Order1.l0 (k + 1) y0 y1 y2 y3 y4 y5)) ∧ (∀ y0 y1 y2 y3 y4 y5 y6 y7 y8 y9 y10 y11, LeO (xsort_Order1.j1 k y0 y1 y2 y3 y4 y5 y6 y7 y8 y9 y10 y11) (xsort_Order1.j1 (k + 1) y0 y1 y2 y3 y4 y5 y6 y7 y8 y9 y10 y11))
  | 0 => ⟨fun _ _ _ _ _ _ r h => by simp [xsort_Order1.l0] at h, fun _ _ _ _ _ _ _ _ _ _ _ _ r h => by simp [xsort_Order1.j1] at h⟩
  | k + 1 => by
    obtain ⟨ih0, ih1⟩ := xsort_Order1.mono_l k
    refine ⟨?_, ?_⟩
    · intro y0 y1 y2 y3 y4 y5
      unfold xsort_Order1.l0
      repeat' first
      | (with_reducible exact ih0 _ _ _ _ _ _)
      | (with_reducible exact ih1 _ _ _ _ _ _ _ _ _ _ _ _)
      | (with_reducible exact xsort_numbers.mono _ _ _ _ _)
      | (with_reducible exact LeO.refl _)
      | (with_reducible exact LeO.none _)
      | (with_reducible refine LeO.ite ?_ ?_)
      | (with_reducible refine LeO.bind ?_ (fun _ => ?_))
      | exact ih0 _ _ _ _ _ _
      | exact ih1 _ _ _ _ _ _ _ _ _ _ _ _
      | exact xsort_numbers.mono _ _ _ _ _
      | exact LeO.none _
      | refine LeO.ite ?_ ?_
      | refine LeO.bind ?_ (fun _ => ?_)
    · intro y0 y1 y2 y3 y4 y5 y6 y7 y8 y9 y10 y11
      unfold xsort_Order1.j1
      repeat' first
      | (with_reducible exact ih0 _ _ _ _ _ _)
      | (with_reducible exact ih1 _ _ _ _ _ _ _ _ _ _ _ _)
      | (with_reducible exact xsort_numbers.mono _ _ _ _ _)
      | (with_reducible exact LeO.refl _)
      | (with_reducible exact LeO.none _)
      | (with_reducible refine LeO.ite ?_ ?_)
      | (with_reducible refine LeO.bind ?_ (fun _ => ?_))
      | exact ih0 _ _ _ _ _ _
      | exact ih1 _ _ _ _ _ _ _ _ _ _ _ _
      | exact xsort_numbers.mono _ _ _ _ _
      | exact LeO.none _
      | refine LeO.ite ?_ ?_
      | refine LeO.bind ?_ (fun _ => ?_)
theorem xsort_Order1.mono : ∀ a0 a1 a2 k, LeO (xsort_Order1.f k a0 a1 a2) (xsort_Order1.f (k + 1) a0 a1 a2) := by
  intro a0 a1 a2 k
  obtain ⟨ih0, ih1⟩ := xsort_Order1.mono_l k
  unfold xsort_Order1.f
  repeat' first
      | (with_reducible exact ih0 _ _ _ _ _ _)
      | (with_reducible exact ih1 _ _ _ _ _ _ _ _ _ _ _ _)
      | (with_reducible exact xsort_numbers.mono _ _ _ _ _)
      | (with_reducible exact LeO.refl _)
      | (with_reducible exact LeO.none _)
      | (with_reducible refine LeO.ite ?_ ?_)
      | (with_reducible refine LeO.bind ?_ (fun _ => ?_))
      | exact ih0 _ _ _ _ _ _
      | exact ih1 _ _ _ _ _ _ _ _ _ _ _ _
      | exact xsort_numbers.mono _ _ _ _ _
      | exact LeO.none _
      | refine LeO.ite ?_ ?_
      | refine LeO.bind ?_ (fun _ => ?_)
def xsort_Order1.T4 : Bool × List (List Nat × List Nat) := (true, [([], []), ([], []), ([0, 1], [0, 1]), ([2], [2]), ([], []), ([3, 4], [3, 4]), ([], []), ([], []), ([6, 7], [6, 7]), ([8], [8]), ([], []), ([9, 10, 5], [9, 10]), ([], []), ([], []), ([12, 5, 11, 0, 1, 2, 3, 4, 5, 12, 13], [5, 12]), ([13, 11, 14, 0, 1, 2, 3, 4, 5, 6, 7, 8, 9, 10, 11, 12, 13, 14], [11, 13])])
def xsort_Order1.B4 : List Nat := [0, 0, 3, 7, 0, 31, 0, 0, 192, 448, 0, 2047, 0, 0, 16383, 32767]
theorem xsort_Order1.tab4 : rtab .any (opsOf Tryd.f26 4) = xsort_Order1.T4 := by kernel_rfl
theorem xsort_Order1.bits4 : waitsOk xsort_Order1.T4.2 xsort_Order1.B4 = true := by kernel_rfl
set_option maxHeartbeats 8000000 in
set_option maxRecDepth 100000 in
theorem xsort_Order1.calls (k : Nat) (a0 : Int) (a1 : Int) (A2 : Option Addr) (c2 : Nat) (l2 : List (List (S41))) (r : Int) (w : World) (hr2 : Kd.C (Kd.slice 41 k41) w A2 l2.length l2) (hc2 : l2.length ≤ c2) (bc : Nat) (hcap : w.cell? ⟨bc, 0, none⟩ = some (.slice A2 l2.length c2)) (HLD : Laid w) (h : xsort_Order1.f k a0 a1 l2 = some r) :
    Calls Tryd.prog 26 #[.int .i64 a0, .int .i64 a1, .pointer (some ⟨bc, 0, none⟩)] w fun e w' => e = .returned (.int .i64 r) ∧ Below w.heap.size w w' := by
  have hu41 := Tryd.underlying41
  have hu39 := Tryd.underlying39
  have HR2 := Aside0.mk hr2
  have HC2 := Aside0.mk hc2
  clear hr2 hc2
  have HB := Aside0.mk (Below.refl w.heap.size w)
  have H : (if 0 < (l2.length : Int) then (xsort_Order1.l0 k a0 a1 l2 (rd_KK l2 0) ((rd_KK l2 0).length : Int) 0) else (none)) = some r := h
  clear h
  by_cases c4 : 0 < (l2.length : Int)
  · rw [if_pos c4] at H
    have c4b0 : decide (0 < (l2.length : Int)) = true := decide_eq_true c4
    have c4b1 : decide (0 < l2.length) = true := decide_eq_true (by omega)
    clear c4
    have H' := Aside0.mk H
    clear H
    have p129 : 0 ≤ (0 : Int) := (by omega)
    have q129 : 0 < (l2.length : Int) := of_decide_eq_true (by first | (with_reducible assumption) | assumption)
    obtain ⟨ad129, A129_0, c129_0, e129, hx129_0, hl129_0, hi129_0⟩ := at_KK HR2.out 0 p129 q129
    cases e129
    have qi129 : (0 < l2.length) = True := eq_true (by omega)
    (try rw [show ((0 : Int)).toNat = 0 from rfl] at hx129_0)
    (try rw [Addr.add_zero'] at hx129_0)
    have HR129_0 := Aside0.mk hi129_0
    have HC129_0 := Aside0.mk hl129_0
    clear hi129_0 hl129_0
    replace p129 := eq_true p129
    replace q129 := eq_true q129
    go_enter Tryd.func26, Tryd.ntmps26
    go_wp2
    go_loopg [15] k (fun kq v15 w' => ∃ (x15_1 : Int), v15 = .int .i64 x15_1 ∧ Aside0 (xsort_Order1.l0 kq a0 a1 l2 (rd_KK l2 0) ((rd_KK l2 0).length : Int) x15_1 = some r) ∧ Aside0 (kq ≤ k) ∧ Aside0 (Below w.heap.size w w'))
    case atStart => exact ⟨(0), (by first | rfl | (simp; done) | (simp [*]; done)), H', ⟨Nat.le_refl _⟩, ⟨by repeat (first | (with_reducible first | exact HB.out | apply below_alloc | apply pw_below_drewN | apply below_drew1) | exact HB.out)⟩⟩
    case round =>
      clear H'
      try clear c1
      try clear p1
      try clear q1
      try clear hx1
      try clear qi1
      try clear c2
      try clear p2
      try clear c4
      try clear c4b0
      try clear c4b1
      try clear hx129_0
      try clear p129
      try clear q129
      obtain ⟨x15_1, rfl, HA, HK1, HB⟩ := hrel
      cases gk with
      | zero => exact absurd HA.out (by simp [xsort_Order1.l0])
      | succ k1 =>
        have H := HA.out
        clear HA
        simp only [xsort_Order1.l0] at H
        by_cases c5 : x15_1 < ((rd_KK l2 0).length : Int)
        · rw [if_pos c5] at H
          have c5b0 : decide (x15_1 < ((rd_KK l2 0).length : Int)) = true := decide_eq_true c5
          clear c5
          by_cases c6 : 0 ≤ x15_1
          · rw [if_pos c6] at H
            have c6b0 : decide (0 ≤ x15_1) = true := decide_eq_true c6
            clear c6
            by_cases c7 : x15_1 < ((rd_KK l2 0).length : Int)
            · rw [if_pos c7] at H
              have c7b0 : decide (x15_1 < ((rd_KK l2 0).length : Int)) = true := decide_eq_true c7
              clear c7
              by_cases c8 : 0 ≤ a0
              · rw [if_pos c8] at H
                have c8b0 : decide (0 ≤ a0) = true := decide_eq_true c8
                clear c8
                by_cases c9 : a0 < (l2.length : Int)
                · rw [if_pos c9] at H
                  have c9b0 : decide (a0 < (l2.length : Int)) = true := decide_eq_true c9
                  clear c9
                  replace H := Option.bind_eq_some_iff.mp H
                  obtain ⟨⟨t133, t134, t135, t136, t137⟩, A100, H⟩ := H
                  replace H : (if 0 ≤ a1 then (if a1 < (l2.length : Int) then ((xsort_at.f (rd_KK l2 a1) x15_1).bind fun bt139 => ((cmp_Compare_string.f t135 bt139.2.2.1).bind fun t146 => (if (rd_T41 (rd_KK l2 0) x15_1).f0 = true then ((xsort_numbers.f k1 t136 t137 bt139.2.2.2.1 bt139.2.2.2.2).bind fun t147 => (xsort_Order1.j1 k1 a0 a1 l2 t147 (rd_KK l2 0) ((rd_KK l2 0).length : Int) x15_1 ((rd_T41 (rd_KK l2 0) x15_1).f0) ((rd_T41 (rd_KK l2 0) x15_1).f1) ((rd_T41 (rd_KK l2 0) x15_1).f2) ((rd_T41 (rd_KK l2 0) x15_1).f3.f0) ((rd_T41 (rd_KK l2 0) x15_1).f3.f1))) else (xsort_Order1.j1 k1 a0 a1 l2 t146 (rd_KK l2 0) ((rd_KK l2 0).length : Int) x15_1 ((rd_T41 (rd_KK l2 0) x15_1).f0) ((rd_T41 (rd_KK l2 0) x15_1).f1) ((rd_T41 (rd_KK l2 0) x15_1).f2) ((rd_T41 (rd_KK l2 0) x15_1).f3.f0) ((rd_T41 (rd_KK l2 0) x15_1).f3.f1))))) else (none)) else (none)) = some r := H
                  have A10 := Aside0.mk A100
                  clear A100
                  by_cases c11 : 0 ≤ a1
                  · rw [if_pos c11] at H
                    have c11b0 : decide (0 ≤ a1) = true := decide_eq_true c11
                    clear c11
                    by_cases c12 : a1 < (l2.length : Int)
                    · rw [if_pos c12] at H
                      have c12b0 : decide (a1 < (l2.length : Int)) = true := decide_eq_true c12
                      clear c12
                      replace H := Option.bind_eq_some_iff.mp H
                      obtain ⟨⟨t139, t140, t141, t142, t143⟩, A130, H⟩ := H
                      replace H : ((cmp_Compare_string.f t135 t141).bind fun t146 => (if (rd_T41 (rd_KK l2 0) x15_1).f0 = true then ((xsort_numbers.f k1 t136 t137 t142 t143).bind fun t147 => (xsort_Order1.j1 k1 a0 a1 l2 t147 (rd_KK l2 0) ((rd_KK l2 0).length : Int) x15_1 ((rd_T41 (rd_KK l2 0) x15_1).f0) ((rd_T41 (rd_KK l2 0) x15_1).f1) ((rd_T41 (rd_KK l2 0) x15_1).f2) ((rd_T41 (rd_KK l2 0) x15_1).f3.f0) ((rd_T41 (rd_KK l2 0) x15_1).f3.f1))) else (xsort_Order1.j1 k1 a0 a1 l2 t146 (rd_KK l2 0) ((rd_KK l2 0).length : Int) x15_1 ((rd_T41 (rd_KK l2 0) x15_1).f0) ((rd_T41 (rd_KK l2 0) x15_1).f1) ((rd_T41 (rd_KK l2 0) x15_1).f2) ((rd_T41 (rd_KK l2 0) x15_1).f3.f0) ((rd_T41 (rd_KK l2 0) x15_1).f3.f1)))) = some r := H
                      have A13 := Aside0.mk A130
                      clear A130
                      replace H := Option.bind_eq_some_iff.mp H
                      obtain ⟨t146, A140, H⟩ := H
                      replace H : (if (rd_T41 (rd_KK l2 0) x15_1).f0 = true then ((xsort_numbers.f k1 t136 t137 t142 t143).bind fun t147 => (xsort_Order1.j1 k1 a0 a1 l2 t147 (rd_KK l2 0) ((rd_KK l2 0).length : Int) x15_1 ((rd_T41 (rd_KK l2 0) x15_1).f0) ((rd_T41 (rd_KK l2 0) x15_1).f1) ((rd_T41 (rd_KK l2 0) x15_1).f2) ((rd_T41 (rd_KK l2 0) x15_1).f3.f0) ((rd_T41 (rd_KK l2 0) x15_1).f3.f1))) else (xsort_Order1.j1 k1 a0 a1 l2 t146 (rd_KK l2 0) ((rd_KK l2 0).length : Int) x15_1 ((rd_T41 (rd_KK l2 0) x15_1).f0) ((rd_T41 (rd_KK l2 0) x15_1).f1) ((rd_T41 (rd_KK l2 0) x15_1).f2) ((rd_T41 (rd_KK l2 0) x15_1).f3.f0) ((rd_T41 (rd_KK l2 0) x15_1).f3.f1))) = some r := H
                      have A14 := Aside0.mk A140
                      clear A140
                      have HC15 := Aside0.mk H
                      clear H
                      have p130 : 0 ≤ (x15_1 : Int) := of_decide_eq_true (by first | (with_reducible assumption) | assumption)
                      have q130 : x15_1 < ((rd_KK l2 0).length : Int) := of_decide_eq_true (by first | (with_reducible assumption) | assumption)
                      obtain ⟨ad130, e130, hx130_0, hx130_1, hx130_2, hx130_3, hx130_4⟩ := at_T41 HR129_0.out x15_1 p130 q130
                      cases e130
                      replace hx130_0 := (HB.out.cell (World.block_lt_of_cell? w _ hx130_0)).trans hx130_0
                      replace hx130_1 := (HB.out.cell (World.block_lt_of_cell? w _ hx130_1)).trans hx130_1
                      replace hx130_2 := (HB.out.cell (World.block_lt_of_cell? w _ hx130_2)).trans hx130_2
                      replace hx130_3 := (HB.out.cell (World.block_lt_of_cell? w _ hx130_3)).trans hx130_3
                      replace hx130_4 := (HB.out.cell (World.block_lt_of_cell? w _ hx130_4)).trans hx130_4
                      replace p130 := eq_true p130
                      replace q130 := eq_true q130
                      try go_wp2_with (first | ((with_reducible refine gate_dst (N := 7) rfl ?_); refine box_event ?hg (N := 7) ?hd (cs := #[.bool false, .bool false, .string (⟨#[]⟩ : ByteArray), .int .i64 0, .int .i64 0]) (t := 41) ?hr ?_; (case hd => rfl); (case hg => rfl); (case hr => first | (go_simp; done) | (go_simp; rfl)); intro gb131 hg w16 hbox hb; have n0_ := Aside0.mk (below_step (by repeat (first | (with_reducible first | exact HB.out | apply below_alloc | apply pw_below_drewN | apply below_drew1) | exact HB.out)) hb); have n1_ := Aside0.mk (hbox); have n2_ := Aside0.mk ((by rw [hg]; exact (below_size (by repeat (first | (with_reducible first | exact HB.out | apply below_alloc | apply pw_below_drewN | apply below_drew1) | exact HB.out))) : w.heap.size ≤ gb131)); have n3_ := Aside0.mk ((by rw [hg]; exact (below_size (by repeat (first | (with_reducible first | exact HB.out | apply below_alloc | apply pw_below_drewN | apply below_drew1) | exact HB.out))) : w.heap.size ≤ gb131)); clear HB; have HB := n0_; have BK131 := n1_; have GW131 := n2_; have GE131 := n3_; clear n0_ n1_ n2_ n3_; clear hb hbox hg; have hcz17_0 : w16.cell? ⟨gb131, 0, none⟩ = some (.bool false) := (blk_cell BK131.out 0).trans rfl; have hcz17_1 : w16.cell? ⟨gb131, 1, none⟩ = some (.bool false) := (blk_cell BK131.out 1).trans rfl; have hcz17_2 : w16.cell? ⟨gb131, 2, none⟩ = some (.string (⟨#[]⟩ : ByteArray)) := (blk_cell BK131.out 2).trans rfl; have hcz17_3 : w16.cell? ⟨gb131, 3, none⟩ = some (.int .i64 0) := (blk_cell BK131.out 3).trans rfl; have hcz17_4 : w16.cell? ⟨gb131, 4, none⟩ = some (.int .i64 0) := (blk_cell BK131.out 4).trans rfl; have hfz17_0 := blk_frozen BK131.out 0; have hfz17_1 := blk_frozen BK131.out 1; have hfz17_2 := blk_frozen BK131.out 2; have hfz17_3 := blk_frozen BK131.out 3; have hfz17_4 := blk_frozen BK131.out 4))
                      have n0_ : Aside0 ((((((w16.setCell ⟨gb131, 0, none⟩ (.bool ((rd_T41 (rd_KK l2 0) x15_1).f0))).setCell ⟨gb131, 1, none⟩ (.bool ((rd_T41 (rd_KK l2 0) x15_1).f1))).setCell ⟨gb131, 2, none⟩ (.string ((rd_T41 (rd_KK l2 0) x15_1).f2))).setCell ⟨gb131, 3, none⟩ (.int .i64 ((rd_T41 (rd_KK l2 0) x15_1).f3.f0))).setCell ⟨gb131, 4, none⟩ (.int .i64 ((rd_T41 (rd_KK l2 0) x15_1).f3.f1))).heap[gb131]? = some (.cells #[.bool ((rd_T41 (rd_KK l2 0) x15_1).f0), .bool ((rd_T41 (rd_KK l2 0) x15_1).f1), .string ((rd_T41 (rd_KK l2 0) x15_1).f2), .int .i64 ((rd_T41 (rd_KK l2 0) x15_1).f3.f0), .int .i64 ((rd_T41 (rd_KK l2 0) x15_1).f3.f1)] 41 (0, 0))) := ⟨by (with_reducible repeat (first | refine blk_drewN ?_ _ | refine blk_drew ?_ | refine blk_alloc ?_ _)); refine blk_put (cs := #[.bool ((rd_T41 (rd_KK l2 0) x15_1).f0), .bool ((rd_T41 (rd_KK l2 0) x15_1).f1), .string ((rd_T41 (rd_KK l2 0) x15_1).f2), .int .i64 ((rd_T41 (rd_KK l2 0) x15_1).f3.f0), .int .i64 0]) ?_ 4 _ rfl; (with_reducible repeat (first | refine blk_drewN ?_ _ | refine blk_drew ?_ | refine blk_alloc ?_ _)); refine blk_put (cs := #[.bool ((rd_T41 (rd_KK l2 0) x15_1).f0), .bool ((rd_T41 (rd_KK l2 0) x15_1).f1), .string ((rd_T41 (rd_KK l2 0) x15_1).f2), .int .i64 0, .int .i64 0]) ?_ 3 _ rfl; (with_reducible repeat (first | refine blk_drewN ?_ _ | refine blk_drew ?_ | refine blk_alloc ?_ _)); refine blk_put (cs := #[.bool ((rd_T41 (rd_KK l2 0) x15_1).f0), .bool ((rd_T41 (rd_KK l2 0) x15_1).f1), .string (⟨#[]⟩ : ByteArray), .int .i64 0, .int .i64 0]) ?_ 2 _ rfl; (with_reducible repeat (first | refine blk_drewN ?_ _ | refine blk_drew ?_ | refine blk_alloc ?_ _)); refine blk_put (cs := #[.bool ((rd_T41 (rd_KK l2 0) x15_1).f0), .bool false, .string (⟨#[]⟩ : ByteArray), .int .i64 0, .int .i64 0]) ?_ 1 _ rfl; (with_reducible repeat (first | refine blk_drewN ?_ _ | refine blk_drew ?_ | refine blk_alloc ?_ _)); refine blk_put (cs := #[.bool false, .bool false, .string (⟨#[]⟩ : ByteArray), .int .i64 0, .int .i64 0]) ?_ 0 _ rfl; (with_reducible repeat (first | refine blk_drewN ?_ _ | refine blk_drew ?_ | refine blk_alloc ?_ _)); exact BK131.out⟩
                      have n1_ : Aside0 (Below w.heap.size w (((((w16.setCell ⟨gb131, 0, none⟩ (.bool ((rd_T41 (rd_KK l2 0) x15_1).f0))).setCell ⟨gb131, 1, none⟩ (.bool ((rd_T41 (rd_KK l2 0) x15_1).f1))).setCell ⟨gb131, 2, none⟩ (.string ((rd_T41 (rd_KK l2 0) x15_1).f2))).setCell ⟨gb131, 3, none⟩ (.int .i64 ((rd_T41 (rd_KK l2 0) x15_1).f3.f0))).setCell ⟨gb131, 4, none⟩ (.int .i64 ((rd_T41 (rd_KK l2 0) x15_1).f3.f1)))) := ⟨by repeat (first | (with_reducible first | exact HB.out | apply below_alloc | apply pw_below_drewN | apply below_drew1 | refine below_set ?_ GE131.out) | exact HB.out)⟩
                      (try clear BK131)
                      (try clear HB)
                      generalize (((((w16.setCell ⟨gb131, 0, none⟩ (.bool ((rd_T41 (rd_KK l2 0) x15_1).f0))).setCell ⟨gb131, 1, none⟩ (.bool ((rd_T41 (rd_KK l2 0) x15_1).f1))).setCell ⟨gb131, 2, none⟩ (.string ((rd_T41 (rd_KK l2 0) x15_1).f2))).setCell ⟨gb131, 3, none⟩ (.int .i64 ((rd_T41 (rd_KK l2 0) x15_1).f3.f0))).setCell ⟨gb131, 4, none⟩ (.int .i64 ((rd_T41 (rd_KK l2 0) x15_1).f3.f1))) = w18 at n0_ n1_ ⊢
                      have BK131 := n0_
                      have HB := n1_
                      clear n0_ n1_
                      have n0_ := Aside0.mk (blk_drew BK131.out)
                      have n1_ := Aside0.mk (below_drew1 HB.out)
                      clear BK131
                      clear HB
                      have BK131 := n0_
                      have HB := n1_
                      clear n0_ n1_
                      have p132 : 0 ≤ (a0 : Int) := of_decide_eq_true (by first | (with_reducible assumption) | assumption)
                      have q132 : a0 < (l2.length : Int) := of_decide_eq_true (by first | (with_reducible assumption) | assumption)
                      obtain ⟨ad132, A132_0, c132_0, e132, hx132_0, hl132_0, hi132_0⟩ := at_KK HR2.out a0 p132 q132
                      have hw132_0 := hx132_0
                      obtain rfl : ad129 = ad132 := (by injection e132)
                      replace hx132_0 := (HB.out.cell (World.block_lt_of_cell? w _ hx132_0)).trans hx132_0
                      have HR132_0 := Aside0.mk hi132_0
                      have HC132_0 := Aside0.mk hl132_0
                      clear hi132_0 hl132_0
                      replace p132 := eq_true p132
                      replace q132 := eq_true q132
                      have p138 : 0 ≤ (a1 : Int) := of_decide_eq_true (by first | (with_reducible assumption) | assumption)
                      have q138 : a1 < (l2.length : Int) := of_decide_eq_true (by first | (with_reducible assumption) | assumption)
                      obtain ⟨ad138, A138_0, c138_0, e138, hx138_0, hl138_0, hi138_0⟩ := at_KK HR2.out a1 p138 q138
                      have hw138_0 := hx138_0
                      obtain rfl : ad129 = ad138 := (by injection e138)
                      replace hx138_0 := (HB.out.cell (World.block_lt_of_cell? w _ hx138_0)).trans hx138_0
                      have HR138_0 := Aside0.mk hi138_0
                      have HC138_0 := Aside0.mk hl138_0
                      clear hi138_0 hl138_0
                      replace p138 := eq_true p138
                      replace q138 := eq_true q138
                      refine start_ (n := 16) (S := fun w' => True) (ds := []) #[false, false, false, false, false, false, false, false, false, false, false, false, false, false, false, false] (by kernel_rfl) rfl rfl trivial (fun hHeld => ?_); refine with_tabW xsort_Order1.tab4 xsort_Order1.bits4 (fun HT_ HW_ => ?_)
                      generalize w18.drew = w19 at BK131 HB HR132_0 HR138_0 hx132_0 hx138_0 hHeld ⊢
                      refine pure_ (i := 1) (N := some 21) (v := ?_) (a' := ?_) #[false, true, false, false, false, false, false, false, false, false, false, false, false, false, false, false] rfl rfl (any_of HT_.out (by kernel_rfl)) (fun _ _ _ h => h) (Or.inl ⟨by rfl, ?_⟩) ?_ ?_
                      rotate_left
                      · intro w'
                        go_simp
                        with_reducible rfl
                      rotate_left
                      · simp only [Act.put, List.setIfInBounds_toArray, List.set_cons_zero, List.set_cons_succ, i64_w, i32_w]
                        rfl
                      refine pure_ (i := 4) (N := some 24) (v := ?_) (a' := ?_) #[false, true, false, false, true, false, false, false, false, false, false, false, false, false, false, false] rfl rfl (any_of HT_.out (by kernel_rfl)) (fun _ _ _ h => h) (Or.inl ⟨by rfl, ?_⟩) ?_ ?_
                      rotate_left
                      · intro w'
                        go_simp
                        with_reducible rfl
                      rotate_left
                      · simp only [Act.put, List.setIfInBounds_toArray, List.set_cons_zero, List.set_cons_succ, i64_w, i32_w]
                        rfl
                      refine pure_ (i := 7) (N := some 27) (v := ?_) (a' := ?_) #[false, true, false, false, true, false, false, true, false, false, false, false, false, false, false, false] rfl rfl (any_of HT_.out (by kernel_rfl)) (fun _ _ _ h => h) (Or.inl ⟨by rfl, ?_⟩) ?_ ?_
                      rotate_left
                      · intro w'
                        go_simp
                        with_reducible rfl
                      rotate_left
                      · simp only [Act.put, List.setIfInBounds_toArray, List.set_cons_zero, List.set_cons_succ, i64_w, i32_w]
                        rfl
                      refine pure_ (i := 10) (N := some 30) (v := ?_) (a' := ?_) #[false, true, false, false, true, false, false, true, false, false, true, false, false, false, false, false] rfl rfl (any_of HT_.out (by kernel_rfl)) (fun _ _ _ h => h) (Or.inl ⟨by rfl, ?_⟩) ?_ ?_
                      rotate_left
                      · intro w'
                        go_simp
                        with_reducible rfl
                      rotate_left
                      · simp only [Act.put, List.setIfInBounds_toArray, List.set_cons_zero, List.set_cons_succ, i64_w, i32_w]
                        rfl
                      refine inv_at [0, 2, 3, 5, 6, 8, 9, 11, 12, 13, 14, 15] (fun a0_ b a w' => ∃ (gb144 : Nat) (gb145 : Nat) (m12_ : Value) (m13_ : Value), a = putSel a0_ b [(0, 20, .slice (some ad129) l2.length c2), (2, 22, .pointer (some (ad129.add (a0).toNat))), (3, 23, .slice A132_0 (rd_KK l2 a0).length c132_0), (5, 25, .agg #[.bool t133, .bool t134, .string t135, .int .i64 t136, .int .i64 t137]), (6, 26, .slice (some ad129) l2.length c2), (8, 28, .pointer (some (ad129.add (a1).toNat))), (9, 29, .slice A138_0 (rd_KK l2 a1).length c138_0), (11, 31, .agg #[.bool t139, .bool t140, .string t141, .int .i64 t142, .int .i64 t143]), (12, 8, m12_), (13, 9, m13_)] ∧ (w'.heap[gb131]? = some (.cells #[.bool ((rd_T41 (rd_KK l2 0) x15_1).f0), .bool ((rd_T41 (rd_KK l2 0) x15_1).f1), .string ((rd_T41 (rd_KK l2 0) x15_1).f2), .int .i64 ((rd_T41 (rd_KK l2 0) x15_1).f3.f0), .int .i64 ((rd_T41 (rd_KK l2 0) x15_1).f3.f1)] 41 (0, 0))) ∧ (Below w.heap.size w w') ∧ (b 12 = true → b 13 = true → gb145 ≠ gb144) ∧ (b 12 = true → b 13 = true → gb144 ≠ gb145) ∧ (b 12 = true → b 14 = false → w'.heap[gb144]? = some (.cells #[.bool false, .bool false, .string (⟨#[]⟩ : ByteArray), .int .i64 0, .int .i64 0] 41 (0, 0))) ∧ (b 12 = true → w.heap.size ≤ gb144) ∧ (b 12 = true → w.heap.size ≤ gb144) ∧ (b 12 = true → gb131 ≠ gb144) ∧ (b 12 = true → gb144 ≠ gb131) ∧ (b 13 = true → b 15 = false → w'.heap[gb145]? = some (.cells #[.bool false, .bool false, .string (⟨#[]⟩ : ByteArray), .int .i64 0, .int .i64 0] 41 (0, 0))) ∧ (b 13 = true → w.heap.size ≤ gb145) ∧ (b 13 = true → w.heap.size ≤ gb145) ∧ (b 13 = true → gb131 ≠ gb145) ∧ (b 13 = true → gb145 ≠ gb131) ∧ (b 14 = true → w'.heap[gb144]? = some (.cells #[.bool t133, .bool t134, .string t135, .int .i64 t136, .int .i64 t137] 41 (0, 0))) ∧ (b 15 = true → w'.heap[gb145]? = some (.cells #[.bool t139, .bool t140, .string t141, .int .i64 t142, .int .i64 t143] 41 (0, 0))) ∧ (b 12 = true → (m12_ : Value) = .pointer (some ⟨gb144, 0, none⟩)) ∧ (b 13 = true → (m13_ : Value) = .pointer (some ⟨gb145, 0, none⟩))) HT_.out HW_.out (by kernel_rfl) (by kernel_rfl) ?_ ?_ ?_
                      · exact ⟨0, 0, .bool false, .bool false, by simp only [putSel, Bool.false_eq_true, if_false], BK131.out, HB.out, fun h_ => absurd h_ (by decide), fun h_ => absurd h_ (by decide), fun h_ => absurd h_ (by decide), fun h_ => absurd h_ (by decide), fun h_ => absurd h_ (by decide), fun h_ => absurd h_ (by decide), fun h_ => absurd h_ (by decide), fun h_ => absurd h_ (by decide), fun h_ => absurd h_ (by decide), fun h_ => absurd h_ (by decide), fun h_ => absurd h_ (by decide), fun h_ => absurd h_ (by decide), fun h_ => absurd h_ (by decide), fun h_ => absurd h_ (by decide), fun h_ => absurd h_ (by decide), fun h_ => absurd h_ (by decide)⟩
                      · skip
                        clear BK131 HB
                        refine steps_cons ?_ ?_
                        · rintro b a w' ⟨gb144, gb145, m12_, m13_, ha, Q_BK131, Q_HB, Q_NB145_144, Q_NB144_145, Q_BK144, Q_GW144, Q_GE144, Q_NB131_144, Q_NB144_131, Q_BK145, Q_GW145, Q_GE145, Q_NB131_145, Q_NB145_131, Q_BK144_e14, Q_BK145_e15, Q_X12_, Q_X13_⟩ hb_ hon hoff
                          refine ⟨_, rfl, fun K hK => ?_⟩
                          have e2 : a.tmps[2]? = some (.pointer (some ⟨bc, 0, none⟩)) := by rw [ha]; exact (putSel_off rfl).trans rfl
                          replace ha := Aside0.mk ha
                          have BK131 := Aside0.mk Q_BK131
                          have HB := Aside0.mk Q_HB
                          have hs9_ : w'.cell? ⟨bc, 0, none⟩ = some (.slice (some ad129) l2.length c2) := ((HB.out.cell (World.block_lt_of_cell? w _ hcap)).trans hcap)
                          refine value_ (w1 := w') (v := .slice (some ad129) l2.length c2) (by rfl) rfl ?_ ?_
                          · go_simp
                            (try simp only [i64_w])
                            try rfl
                          refine hK.out _ _ ⟨gb144, gb145, m12_, m13_, (by rw [ha.out]; exact putSel_upk 0 hb_ rfl rfl rfl), Q_BK131, Q_HB, Q_NB145_144, Q_NB144_145, Q_BK144, Q_GW144, Q_GE144, Q_NB131_144, Q_NB144_131, Q_BK145, Q_GW145, Q_GE145, Q_NB131_145, Q_NB145_131, fun h0_ => absurd ((hoff 14 (by kernel_rfl)).symm.trans h0_) (by decide), fun h0_ => absurd ((hoff 15 (by kernel_rfl)).symm.trans h0_) (by decide), Q_X12_, Q_X13_⟩
                        refine steps_cons ?_ ?_
                        · rintro b a w' ⟨gb144, gb145, m12_, m13_, ha, Q_BK131, Q_HB, Q_NB145_144, Q_NB144_145, Q_BK144, Q_GW144, Q_GE144, Q_NB131_144, Q_NB144_131, Q_BK145, Q_GW145, Q_GE145, Q_NB131_145, Q_NB145_131, Q_BK144_e14, Q_BK145_e15, Q_X12_, Q_X13_⟩ hb_ hon hoff
                          refine ⟨_, rfl, fun K hK => ?_⟩
                          have e20 : a.tmps[20]? = some (.slice (some ad129) l2.length c2) := by rw [ha]; exact putSel_on (e := (0, 20, .slice (some ad129) l2.length c2)) 0 rfl rfl (hon 0 (by kernel_rfl)) rfl
                          have e21 : a.tmps[21]? = some (.int .i64 a0) := by rw [ha]; exact (putSel_off rfl).trans rfl
                          replace ha := Aside0.mk ha
                          have BK131 := Aside0.mk Q_BK131
                          have HB := Aside0.mk Q_HB
                          have hs0_ : w'.cell? (ad129.add (a0).toNat) = some (.slice A132_0 (rd_KK l2 a0).length c132_0) := ((HB.out.cell (World.block_lt_of_cell? w _ hw132_0)).trans hw132_0)
                          refine value_ (w1 := w') (v := .pointer (some (ad129.add (a0).toNat))) (by rfl) rfl ?_ ?_
                          · go_simp
                            (try simp only [i64_w])
                            try rfl
                          refine hK.out _ _ ⟨gb144, gb145, m12_, m13_, (by rw [ha.out]; exact putSel_upk 1 hb_ rfl rfl rfl), Q_BK131, Q_HB, Q_NB145_144, Q_NB144_145, Q_BK144, Q_GW144, Q_GE144, Q_NB131_144, Q_NB144_131, Q_BK145, Q_GW145, Q_GE145, Q_NB131_145, Q_NB145_131, fun h0_ => absurd ((hoff 14 (by kernel_rfl)).symm.trans h0_) (by decide), fun h0_ => absurd ((hoff 15 (by kernel_rfl)).symm.trans h0_) (by decide), Q_X12_, Q_X13_⟩
                        refine steps_cons ?_ ?_
                        · rintro b a w' ⟨gb144, gb145, m12_, m13_, ha, Q_BK131, Q_HB, Q_NB145_144, Q_NB144_145, Q_BK144, Q_GW144, Q_GE144, Q_NB131_144, Q_NB144_131, Q_BK145, Q_GW145, Q_GE145, Q_NB131_145, Q_NB145_131, Q_BK144_e14, Q_BK145_e15, Q_X12_, Q_X13_⟩ hb_ hon hoff
                          refine ⟨_, rfl, fun K hK => ?_⟩
                          have e22 : a.tmps[22]? = some (.pointer (some (ad129.add (a0).toNat))) := by rw [ha]; exact putSel_on (e := (2, 22, .pointer (some (ad129.add (a0).toNat)))) 1 rfl rfl (hon 2 (by kernel_rfl)) rfl
                          replace ha := Aside0.mk ha
                          have BK131 := Aside0.mk Q_BK131
                          have HB := Aside0.mk Q_HB
                          have hs0_ : w'.cell? (ad129.add (a0).toNat) = some (.slice A132_0 (rd_KK l2 a0).length c132_0) := ((HB.out.cell (World.block_lt_of_cell? w _ hw132_0)).trans hw132_0)
                          refine value_ (w1 := w') (v := .slice A132_0 (rd_KK l2 a0).length c132_0) (by rfl) rfl ?_ ?_
                          · go_simp
                            (try simp only [i64_w])
                            try rfl
                          refine hK.out _ _ ⟨gb144, gb145, m12_, m13_, (by rw [ha.out]; exact putSel_upk 2 hb_ rfl rfl rfl), Q_BK131, Q_HB, Q_NB145_144, Q_NB144_145, Q_BK144, Q_GW144, Q_GE144, Q_NB131_144, Q_NB144_131, Q_BK145, Q_GW145, Q_GE145, Q_NB131_145, Q_NB145_131, fun h0_ => absurd ((hoff 14 (by kernel_rfl)).symm.trans h0_) (by decide), fun h0_ => absurd ((hoff 15 (by kernel_rfl)).symm.trans h0_) (by decide), Q_X12_, Q_X13_⟩
                        refine steps_cons ?_ ?_
                        · rintro b a w' ⟨gb144, gb145, m12_, m13_, ha, Q_BK131, Q_HB, Q_NB145_144, Q_NB144_145, Q_BK144, Q_GW144, Q_GE144, Q_NB131_144, Q_NB144_131, Q_BK145, Q_GW145, Q_GE145, Q_NB131_145, Q_NB145_131, Q_BK144_e14, Q_BK145_e15, Q_X12_, Q_X13_⟩ hb_ hon hoff
                          refine ⟨_, rfl, fun K hK => ?_⟩
                          have e23 : a.tmps[23]? = some (.slice A132_0 (rd_KK l2 a0).length c132_0) := by rw [ha]; exact putSel_on (e := (3, 23, .slice A132_0 (rd_KK l2 a0).length c132_0)) 2 rfl rfl (hon 3 (by kernel_rfl)) rfl
                          have e24 : a.tmps[24]? = some (.int .i64 x15_1) := by rw [ha]; exact (putSel_off rfl).trans rfl
                          replace ha := Aside0.mk ha
                          have BK131 := Aside0.mk Q_BK131
                          have HB := Aside0.mk Q_HB
                          refine goes_ Tryd.func27 (by kernel_rfl) rfl #[.slice A132_0 (rd_KK l2 a0).length c132_0, .int .i64 x15_1] (by rfl) rfl rfl (by first | (simp only [List.map_toArray, List.map_cons, List.map_nil, Act.eval, Array.getD_eq_getD_getElem?, Option.getD_some, e23, e24]; done) | (simp only [List.map_toArray, List.map_cons, List.map_nil, Act.eval, Array.getD_eq_getD_getElem?, Option.getD_some, e23, e24]; rfl)) ?_
                          with_reducible refine (xsort_at.calls _ _ (rd_KK l2 a0) x15_1 t133 t134 t135 t136 t137 _ ?side1 ?side2 ?side3 A10.out).mono ?_
                          (case side1 => repeat (first | exact (Kd.C_below HR132_0.out HB.out) | (with_reducible refine Kd.C_alloc ?_ _) | (with_reducible refine Kd.C_drewN ?_ _) | (with_reducible refine Kd.C_drew ?_)))
                          (case side2 => exact HC132_0.out)
                          (case side3 => first | exact HLD | exact Laid.below HLD (by repeat (first | (with_reducible first | exact HB.out | apply below_alloc | apply pw_below_drewN | apply below_drew1 | refine below_set ?_ GE131.out) | exact HB.out)))
                          rintro e w20 ⟨rfl, hb⟩
                          refine ⟨_, rfl, ?_⟩
                          have n0_ := Aside0.mk (blk_below (g := gb131) (o := .cells #[.bool ((rd_T41 (rd_KK l2 0) x15_1).f0), .bool ((rd_T41 (rd_KK l2 0) x15_1).f1), .string ((rd_T41 (rd_KK l2 0) x15_1).f2), .int .i64 ((rd_T41 (rd_KK l2 0) x15_1).f3.f0), .int .i64 ((rd_T41 (rd_KK l2 0) x15_1).f3.f1)] 41 (0, 0)) (by (with_reducible repeat (first | refine blk_drewN ?_ _ | refine blk_drew ?_ | refine blk_alloc ?_ _)); exact BK131.out) hb)
                          have n1_ := Aside0.mk (below_step (by repeat (first | (with_reducible first | exact HB.out | apply below_alloc | apply pw_below_drewN | apply below_drew1 | refine below_set ?_ GE131.out) | exact HB.out)) hb)
                          have z_BK144 := fun (h0_ : b 12 = true) (h1_ : b 14 = false) => (show w20.heap[gb144]? = some (.cells #[.bool false, .bool false, .string (⟨#[]⟩ : ByteArray), .int .i64 0, .int .i64 0] 41 (0, 0)) from by first | exact (blk_below (g := gb144) (o := .cells #[.bool false, .bool false, .string (⟨#[]⟩ : ByteArray), .int .i64 0, .int .i64 0] 41 (0, 0)) (by (with_reducible repeat (first | refine blk_drewN ?_ _ | refine blk_drew ?_ | refine blk_alloc ?_ _)); exact (Q_BK144 h0_ h1_)) hb))
                          have z_BK145 := fun (h0_ : b 13 = true) (h1_ : b 15 = false) => (show w20.heap[gb145]? = some (.cells #[.bool false, .bool false, .string (⟨#[]⟩ : ByteArray), .int .i64 0, .int .i64 0] 41 (0, 0)) from by first | exact (blk_below (g := gb145) (o := .cells #[.bool false, .bool false, .string (⟨#[]⟩ : ByteArray), .int .i64 0, .int .i64 0] 41 (0, 0)) (by (with_reducible repeat (first | refine blk_drewN ?_ _ | refine blk_drew ?_ | refine blk_alloc ?_ _)); exact (Q_BK145 h0_ h1_)) hb))
                          clear BK131
                          clear HB
                          have BK131 := n0_
                          have HB := n1_
                          clear n0_ n1_
                          (try clear hb)
                          (try clear hb2)
                          (try clear hk)
                          (try clear hi)
                          refine hK.out _ _ ⟨gb144, gb145, m12_, m13_, (by rw [ha.out]; exact putSel_upk 3 hb_ rfl rfl rfl), (by (with_reducible repeat (first | refine blk_drewN ?_ _ | refine blk_drew ?_ | refine blk_alloc ?_ _)); exact BK131.out), (by repeat (first | (with_reducible first | exact HB.out | apply below_alloc | apply pw_below_drewN | apply below_drew1 | refine below_set ?_ GE131.out) | exact HB.out)), Q_NB145_144, Q_NB144_145, z_BK144, Q_GW144, Q_GE144, Q_NB131_144, Q_NB144_131, z_BK145, Q_GW145, Q_GE145, Q_NB131_145, Q_NB145_131, fun h0_ => absurd ((hoff 14 (by kernel_rfl)).symm.trans h0_) (by decide), fun h0_ => absurd ((hoff 15 (by kernel_rfl)).symm.trans h0_) (by decide), Q_X12_, Q_X13_⟩
                        refine steps_cons ?_ ?_
                        · rintro b a w' ⟨gb144, gb145, m12_, m13_, ha, Q_BK131, Q_HB, Q_NB145_144, Q_NB144_145, Q_BK144, Q_GW144, Q_GE144, Q_NB131_144, Q_NB144_131, Q_BK145, Q_GW145, Q_GE145, Q_NB131_145, Q_NB145_131, Q_BK144_e14, Q_BK145_e15, Q_X12_, Q_X13_⟩ hb_ hon hoff
                          refine ⟨_, rfl, fun K hK => ?_⟩
                          have e2 : a.tmps[2]? = some (.pointer (some ⟨bc, 0, none⟩)) := by rw [ha]; exact (putSel_off rfl).trans rfl
                          replace ha := Aside0.mk ha
                          have BK131 := Aside0.mk Q_BK131
                          have HB := Aside0.mk Q_HB
                          have hs9_ : w'.cell? ⟨bc, 0, none⟩ = some (.slice (some ad129) l2.length c2) := ((HB.out.cell (World.block_lt_of_cell? w _ hcap)).trans hcap)
                          refine value_ (w1 := w') (v := .slice (some ad129) l2.length c2) (by rfl) rfl ?_ ?_
                          · go_simp
                            (try simp only [i64_w])
                            try rfl
                          refine hK.out _ _ ⟨gb144, gb145, m12_, m13_, (by rw [ha.out]; exact putSel_upk 4 hb_ rfl rfl rfl), Q_BK131, Q_HB, Q_NB145_144, Q_NB144_145, Q_BK144, Q_GW144, Q_GE144, Q_NB131_144, Q_NB144_131, Q_BK145, Q_GW145, Q_GE145, Q_NB131_145, Q_NB145_131, fun h0_ => absurd ((hoff 14 (by kernel_rfl)).symm.trans h0_) (by decide), fun h0_ => absurd ((hoff 15 (by kernel_rfl)).symm.trans h0_) (by decide), Q_X12_, Q_X13_⟩
                        refine steps_cons ?_ ?_
                        · rintro b a w' ⟨gb144, gb145, m12_, m13_, ha, Q_BK131, Q_HB, Q_NB145_144, Q_NB144_145, Q_BK144, Q_GW144, Q_GE144, Q_NB131_144, Q_NB144_131, Q_BK145, Q_GW145, Q_GE145, Q_NB131_145, Q_NB145_131, Q_BK144_e14, Q_BK145_e15, Q_X12_, Q_X13_⟩ hb_ hon hoff
                          refine ⟨_, rfl, fun K hK => ?_⟩
                          have e26 : a.tmps[26]? = some (.slice (some ad129) l2.length c2) := by rw [ha]; exact putSel_on (e := (6, 26, .slice (some ad129) l2.length c2)) 4 rfl rfl (hon 6 (by kernel_rfl)) rfl
                          have e27 : a.tmps[27]? = some (.int .i64 a1) := by rw [ha]; exact (putSel_off rfl).trans rfl
                          replace ha := Aside0.mk ha
                          have BK131 := Aside0.mk Q_BK131
                          have HB := Aside0.mk Q_HB
                          have hs1_ : w'.cell? (ad129.add (a1).toNat) = some (.slice A138_0 (rd_KK l2 a1).length c138_0) := ((HB.out.cell (World.block_lt_of_cell? w _ hw138_0)).trans hw138_0)
                          refine value_ (w1 := w') (v := .pointer (some (ad129.add (a1).toNat))) (by rfl) rfl ?_ ?_
                          · go_simp
                            (try simp only [i64_w])
                            try rfl
                          refine hK.out _ _ ⟨gb144, gb145, m12_, m13_, (by rw [ha.out]; exact putSel_upk 5 hb_ rfl rfl rfl), Q_BK131, Q_HB, Q_NB145_144, Q_NB144_145, Q_BK144, Q_GW144, Q_GE144, Q_NB131_144, Q_NB144_131, Q_BK145, Q_GW145, Q_GE145, Q_NB131_145, Q_NB145_131, fun h0_ => absurd ((hoff 14 (by kernel_rfl)).symm.trans h0_) (by decide), fun h0_ => absurd ((hoff 15 (by kernel_rfl)).symm.trans h0_) (by decide), Q_X12_, Q_X13_⟩
                        refine steps_cons ?_ ?_
                        · rintro b a w' ⟨gb144, gb145, m12_, m13_, ha, Q_BK131, Q_HB, Q_NB145_144, Q_NB144_145, Q_BK144, Q_GW144, Q_GE144, Q_NB131_144, Q_NB144_131, Q_BK145, Q_GW145, Q_GE145, Q_NB131_145, Q_NB145_131, Q_BK144_e14, Q_BK145_e15, Q_X12_, Q_X13_⟩ hb_ hon hoff
                          refine ⟨_, rfl, fun K hK => ?_⟩
                          have e28 : a.tmps[28]? = some (.pointer (some (ad129.add (a1).toNat))) := by rw [ha]; exact putSel_on (e := (8, 28, .pointer (some (ad129.add (a1).toNat)))) 5 rfl rfl (hon 8 (by kernel_rfl)) rfl
                          replace ha := Aside0.mk ha
                          have BK131 := Aside0.mk Q_BK131
                          have HB := Aside0.mk Q_HB
                          have hs1_ : w'.cell? (ad129.add (a1).toNat) = some (.slice A138_0 (rd_KK l2 a1).length c138_0) := ((HB.out.cell (World.block_lt_of_cell? w _ hw138_0)).trans hw138_0)
                          refine value_ (w1 := w') (v := .slice A138_0 (rd_KK l2 a1).length c138_0) (by rfl) rfl ?_ ?_
                          · go_simp
                            (try simp only [i64_w])
                            try rfl
                          refine hK.out _ _ ⟨gb144, gb145, m12_, m13_, (by rw [ha.out]; exact putSel_upk 6 hb_ rfl rfl rfl), Q_BK131, Q_HB, Q_NB145_144, Q_NB144_145, Q_BK144, Q_GW144, Q_GE144, Q_NB131_144, Q_NB144_131, Q_BK145, Q_GW145, Q_GE145, Q_NB131_145, Q_NB145_131, fun h0_ => absurd ((hoff 14 (by kernel_rfl)).symm.trans h0_) (by decide), fun h0_ => absurd ((hoff 15 (by kernel_rfl)).symm.trans h0_) (by decide), Q_X12_, Q_X13_⟩
                        refine steps_cons ?_ ?_
                        · rintro b a w' ⟨gb144, gb145, m12_, m13_, ha, Q_BK131, Q_HB, Q_NB145_144, Q_NB144_145, Q_BK144, Q_GW144, Q_GE144, Q_NB131_144, Q_NB144_131, Q_BK145, Q_GW145, Q_GE145, Q_NB131_145, Q_NB145_131, Q_BK144_e14, Q_BK145_e15, Q_X12_, Q_X13_⟩ hb_ hon hoff
                          refine ⟨_, rfl, fun K hK => ?_⟩
                          have e29 : a.tmps[29]? = some (.slice A138_0 (rd_KK l2 a1).length c138_0) := by rw [ha]; exact putSel_on (e := (9, 29, .slice A138_0 (rd_KK l2 a1).length c138_0)) 6 rfl rfl (hon 9 (by kernel_rfl)) rfl
                          have e30 : a.tmps[30]? = some (.int .i64 x15_1) := by rw [ha]; exact (putSel_off rfl).trans rfl
                          replace ha := Aside0.mk ha
                          have BK131 := Aside0.mk Q_BK131
                          have HB := Aside0.mk Q_HB
                          refine goes_ Tryd.func27 (by kernel_rfl) rfl #[.slice A138_0 (rd_KK l2 a1).length c138_0, .int .i64 x15_1] (by rfl) rfl rfl (by first | (simp only [List.map_toArray, List.map_cons, List.map_nil, Act.eval, Array.getD_eq_getD_getElem?, Option.getD_some, e29, e30]; done) | (simp only [List.map_toArray, List.map_cons, List.map_nil, Act.eval, Array.getD_eq_getD_getElem?, Option.getD_some, e29, e30]; rfl)) ?_
                          with_reducible refine (xsort_at.calls _ _ (rd_KK l2 a1) x15_1 t139 t140 t141 t142 t143 _ ?side1 ?side2 ?side3 A13.out).mono ?_
                          (case side1 => repeat (first | exact (Kd.C_below HR138_0.out HB.out) | (with_reducible refine Kd.C_alloc ?_ _) | (with_reducible refine Kd.C_drewN ?_ _) | (with_reducible refine Kd.C_drew ?_)))
                          (case side2 => exact HC138_0.out)
                          (case side3 => first | exact HLD | exact Laid.below HLD (by repeat (first | (with_reducible first | exact HB.out | apply below_alloc | apply pw_below_drewN | apply below_drew1 | refine below_set ?_ GE131.out) | exact HB.out)))
                          rintro e w22 ⟨rfl, hb⟩
                          refine ⟨_, rfl, ?_⟩
                          have n0_ := Aside0.mk (blk_below (g := gb131) (o := .cells #[.bool ((rd_T41 (rd_KK l2 0) x15_1).f0), .bool ((rd_T41 (rd_KK l2 0) x15_1).f1), .string ((rd_T41 (rd_KK l2 0) x15_1).f2), .int .i64 ((rd_T41 (rd_KK l2 0) x15_1).f3.f0), .int .i64 ((rd_T41 (rd_KK l2 0) x15_1).f3.f1)] 41 (0, 0)) (by (with_reducible repeat (first | refine blk_drewN ?_ _ | refine blk_drew ?_ | refine blk_alloc ?_ _)); exact BK131.out) hb)
                          have n1_ := Aside0.mk (below_step (by repeat (first | (with_reducible first | exact HB.out | apply below_alloc | apply pw_below_drewN | apply below_drew1 | refine below_set ?_ GE131.out) | exact HB.out)) hb)
                          have z_BK144 := fun (h0_ : b 12 = true) (h1_ : b 14 = false) => (show w22.heap[gb144]? = some (.cells #[.bool false, .bool false, .string (⟨#[]⟩ : ByteArray), .int .i64 0, .int .i64 0] 41 (0, 0)) from by first | exact (blk_below (g := gb144) (o := .cells #[.bool false, .bool false, .string (⟨#[]⟩ : ByteArray), .int .i64 0, .int .i64 0] 41 (0, 0)) (by (with_reducible repeat (first | refine blk_drewN ?_ _ | refine blk_drew ?_ | refine blk_alloc ?_ _)); exact (Q_BK144 h0_ h1_)) hb))
                          have z_BK145 := fun (h0_ : b 13 = true) (h1_ : b 15 = false) => (show w22.heap[gb145]? = some (.cells #[.bool false, .bool false, .string (⟨#[]⟩ : ByteArray), .int .i64 0, .int .i64 0] 41 (0, 0)) from by first | exact (blk_below (g := gb145) (o := .cells #[.bool false, .bool false, .string (⟨#[]⟩ : ByteArray), .int .i64 0, .int .i64 0] 41 (0, 0)) (by (with_reducible repeat (first | refine blk_drewN ?_ _ | refine blk_drew ?_ | refine blk_alloc ?_ _)); exact (Q_BK145 h0_ h1_)) hb))
                          clear BK131
                          clear HB
                          have BK131 := n0_
                          have HB := n1_
                          clear n0_ n1_
                          (try clear hb)
                          (try clear hb2)
                          (try clear hk)
                          (try clear hi)
                          refine hK.out _ _ ⟨gb144, gb145, m12_, m13_, (by rw [ha.out]; exact putSel_upk 7 hb_ rfl rfl rfl), (by (with_reducible repeat (first | refine blk_drewN ?_ _ | refine blk_drew ?_ | refine blk_alloc ?_ _)); exact BK131.out), (by repeat (first | (with_reducible first | exact HB.out | apply below_alloc | apply pw_below_drewN | apply below_drew1 | refine below_set ?_ GE131.out) | exact HB.out)), Q_NB145_144, Q_NB144_145, z_BK144, Q_GW144, Q_GE144, Q_NB131_144, Q_NB144_131, z_BK145, Q_GW145, Q_GE145, Q_NB131_145, Q_NB145_131, fun h0_ => absurd ((hoff 14 (by kernel_rfl)).symm.trans h0_) (by decide), fun h0_ => absurd ((hoff 15 (by kernel_rfl)).symm.trans h0_) (by decide), Q_X12_, Q_X13_⟩
                        refine steps_cons ?_ ?_
                        · rintro b a w' ⟨gb144, gb145, m12_, m13_, ha, Q_BK131, Q_HB, Q_NB145_144, Q_NB144_145, Q_BK144, Q_GW144, Q_GE144, Q_NB131_144, Q_NB144_131, Q_BK145, Q_GW145, Q_GE145, Q_NB131_145, Q_NB145_131, Q_BK144_e14, Q_BK145_e15, Q_X12_, Q_X13_⟩ hb_ hon hoff
                          refine ⟨_, rfl, fun K hK => ?_⟩
                          replace ha := Aside0.mk ha
                          have BK131 := Aside0.mk Q_BK131
                          have HB := Aside0.mk Q_HB
                          refine box_step ?hg (N := 8) ?hd (cs := #[.bool false, .bool false, .string (⟨#[]⟩ : ByteArray), .int .i64 0, .int .i64 0]) (t := 41) ?hr ?_; (case hd => rfl); (case hg => rfl); (case hr => first | (go_simp; done) | (go_simp; rfl))
                          intro gb144 hg w20 hbox hb
                          have n0_ := Aside0.mk (blk_below (g := gb131) (o := .cells #[.bool ((rd_T41 (rd_KK l2 0) x15_1).f0), .bool ((rd_T41 (rd_KK l2 0) x15_1).f1), .string ((rd_T41 (rd_KK l2 0) x15_1).f2), .int .i64 ((rd_T41 (rd_KK l2 0) x15_1).f3.f0), .int .i64 ((rd_T41 (rd_KK l2 0) x15_1).f3.f1)] 41 (0, 0)) (by (with_reducible repeat (first | refine blk_drewN ?_ _ | refine blk_drew ?_ | refine blk_alloc ?_ _)); exact BK131.out) hb)
                          have n1_ := Aside0.mk (below_step (by repeat (first | (with_reducible first | exact HB.out | apply below_alloc | apply pw_below_drewN | apply below_drew1 | refine below_set ?_ GE131.out) | exact HB.out)) hb)
                          have n2_ := Aside0.mk (hbox)
                          have n3_ := Aside0.mk ((by rw [hg]; exact (below_size (by repeat (first | (with_reducible first | exact HB.out | apply below_alloc | apply pw_below_drewN | apply below_drew1 | refine below_set ?_ GE131.out) | exact HB.out))) : w.heap.size ≤ gb144))
                          have n4_ := Aside0.mk ((by rw [hg]; exact (below_size (by repeat (first | (with_reducible first | exact HB.out | apply below_alloc | apply pw_below_drewN | apply below_drew1 | refine below_set ?_ GE131.out) | exact HB.out))) : w.heap.size ≤ gb144))
                          have n5_ := Aside0.mk ((by rw [hg]; exact Nat.ne_of_lt (blk_lt (g := gb131) (o := .cells #[.bool ((rd_T41 (rd_KK l2 0) x15_1).f0), .bool ((rd_T41 (rd_KK l2 0) x15_1).f1), .string ((rd_T41 (rd_KK l2 0) x15_1).f2), .int .i64 ((rd_T41 (rd_KK l2 0) x15_1).f3.f0), .int .i64 ((rd_T41 (rd_KK l2 0) x15_1).f3.f1)] 41 (0, 0)) (by (with_reducible repeat (first | refine blk_drewN ?_ _ | refine blk_drew ?_ | refine blk_alloc ?_ _)); exact BK131.out)) : gb131 ≠ gb144))
                          have n6_ := Aside0.mk ((by rw [hg]; exact Nat.ne_of_gt (blk_lt (g := gb131) (o := .cells #[.bool ((rd_T41 (rd_KK l2 0) x15_1).f0), .bool ((rd_T41 (rd_KK l2 0) x15_1).f1), .string ((rd_T41 (rd_KK l2 0) x15_1).f2), .int .i64 ((rd_T41 (rd_KK l2 0) x15_1).f3.f0), .int .i64 ((rd_T41 (rd_KK l2 0) x15_1).f3.f1)] 41 (0, 0)) (by (with_reducible repeat (first | refine blk_drewN ?_ _ | refine blk_drew ?_ | refine blk_alloc ?_ _)); exact BK131.out)) : gb144 ≠ gb131))
                          have z_NB145_144 := fun (h0_ : up b 12 12 = true) (h1_ : up b 12 13 = true) => (show gb145 ≠ gb144 from ((by rw [hg]; exact Nat.ne_of_lt (blk_lt (g := gb145) (o := .cells #[.bool false, .bool false, .string (⟨#[]⟩ : ByteArray), .int .i64 0, .int .i64 0] 41 (0, 0)) (by (with_reducible repeat (first | refine blk_drewN ?_ _ | refine blk_drew ?_ | refine blk_alloc ?_ _)); exact (Q_BK145 (show b 13 = true from h1_) (hoff 15 (by kernel_rfl))))) : gb145 ≠ gb144)))
                          have z_NB144_145 := fun (h0_ : up b 12 12 = true) (h1_ : up b 12 13 = true) => (show gb144 ≠ gb145 from ((by rw [hg]; exact Nat.ne_of_gt (blk_lt (g := gb145) (o := .cells #[.bool false, .bool false, .string (⟨#[]⟩ : ByteArray), .int .i64 0, .int .i64 0] 41 (0, 0)) (by (with_reducible repeat (first | refine blk_drewN ?_ _ | refine blk_drew ?_ | refine blk_alloc ?_ _)); exact (Q_BK145 (show b 13 = true from h1_) (hoff 15 (by kernel_rfl))))) : gb144 ≠ gb145)))
                          have z_BK145 := fun (h0_ : b 13 = true) (h1_ : b 15 = false) => (show w20.heap[gb145]? = some (.cells #[.bool false, .bool false, .string (⟨#[]⟩ : ByteArray), .int .i64 0, .int .i64 0] 41 (0, 0)) from by first | exact (blk_below (g := gb145) (o := .cells #[.bool false, .bool false, .string (⟨#[]⟩ : ByteArray), .int .i64 0, .int .i64 0] 41 (0, 0)) (by (with_reducible repeat (first | refine blk_drewN ?_ _ | refine blk_drew ?_ | refine blk_alloc ?_ _)); exact (Q_BK145 h0_ h1_)) hb))
                          clear BK131
                          clear HB
                          have BK131 := n0_
                          have HB := n1_
                          have BK144 := n2_
                          have GW144 := n3_
                          have GE144 := n4_
                          have NB131_144 := n5_
                          have NB144_131 := n6_
                          clear n0_ n1_ n2_ n3_ n4_ n5_ n6_
                          clear hb hbox hg
                          refine hK.out _ _ ⟨gb144, gb145, (.pointer (some ⟨gb144, 0, none⟩)), m13_, (by rw [ha.out]; exact putSel_upk 8 hb_ rfl rfl rfl), (by (with_reducible repeat (first | refine blk_drewN ?_ _ | refine blk_drew ?_ | refine blk_alloc ?_ _)); exact BK131.out), (by repeat (first | (with_reducible first | exact HB.out | apply below_alloc | apply pw_below_drewN | apply below_drew1 | refine below_set ?_ GE131.out | refine below_set ?_ GE144.out) | exact HB.out)), @z_NB145_144, @z_NB144_145, fun _ _ => (by (with_reducible repeat (first | refine blk_drewN ?_ _ | refine blk_drew ?_ | refine blk_alloc ?_ _)); exact BK144.out), fun _ => GW144.out, fun _ => GE144.out, fun _ => NB131_144.out, fun _ => NB144_131.out, z_BK145, Q_GW145, Q_GE145, Q_NB131_145, Q_NB145_131, fun h0_ => absurd ((hoff 14 (by kernel_rfl)).symm.trans h0_) (by decide), fun h0_ => absurd ((hoff 15 (by kernel_rfl)).symm.trans h0_) (by decide), fun _ => rfl, Q_X13_⟩
                        refine steps_cons ?_ ?_
                        · rintro b a w' ⟨gb144, gb145, m12_, m13_, ha, Q_BK131, Q_HB, Q_NB145_144, Q_NB144_145, Q_BK144, Q_GW144, Q_GE144, Q_NB131_144, Q_NB144_131, Q_BK145, Q_GW145, Q_GE145, Q_NB131_145, Q_NB145_131, Q_BK144_e14, Q_BK145_e15, Q_X12_, Q_X13_⟩ hb_ hon hoff
                          refine ⟨_, rfl, fun K hK => ?_⟩
                          replace ha := Aside0.mk ha
                          have BK131 := Aside0.mk Q_BK131
                          have HB := Aside0.mk Q_HB
                          refine box_step ?hg (N := 9) ?hd (cs := #[.bool false, .bool false, .string (⟨#[]⟩ : ByteArray), .int .i64 0, .int .i64 0]) (t := 41) ?hr ?_; (case hd => rfl); (case hg => rfl); (case hr => first | (go_simp; done) | (go_simp; rfl))
                          intro gb145 hg w20 hbox hb
                          have n0_ := Aside0.mk (blk_below (g := gb131) (o := .cells #[.bool ((rd_T41 (rd_KK l2 0) x15_1).f0), .bool ((rd_T41 (rd_KK l2 0) x15_1).f1), .string ((rd_T41 (rd_KK l2 0) x15_1).f2), .int .i64 ((rd_T41 (rd_KK l2 0) x15_1).f3.f0), .int .i64 ((rd_T41 (rd_KK l2 0) x15_1).f3.f1)] 41 (0, 0)) (by (with_reducible repeat (first | refine blk_drewN ?_ _ | refine blk_drew ?_ | refine blk_alloc ?_ _)); exact BK131.out) hb)
                          have n1_ := Aside0.mk (below_step (by repeat (first | (with_reducible first | exact HB.out | apply below_alloc | apply pw_below_drewN | apply below_drew1 | refine below_set ?_ GE131.out) | exact HB.out)) hb)
                          have n2_ := Aside0.mk (hbox)
                          have n3_ := Aside0.mk ((by rw [hg]; exact (below_size (by repeat (first | (with_reducible first | exact HB.out | apply below_alloc | apply pw_below_drewN | apply below_drew1 | refine below_set ?_ GE131.out) | exact HB.out))) : w.heap.size ≤ gb145))
                          have n4_ := Aside0.mk ((by rw [hg]; exact (below_size (by repeat (first | (with_reducible first | exact HB.out | apply below_alloc | apply pw_below_drewN | apply below_drew1 | refine below_set ?_ GE131.out) | exact HB.out))) : w.heap.size ≤ gb145))
                          have n5_ := Aside0.mk ((by rw [hg]; exact Nat.ne_of_lt (blk_lt (g := gb131) (o := .cells #[.bool ((rd_T41 (rd_KK l2 0) x15_1).f0), .bool ((rd_T41 (rd_KK l2 0) x15_1).f1), .string ((rd_T41 (rd_KK l2 0) x15_1).f2), .int .i64 ((rd_T41 (rd_KK l2 0) x15_1).f3.f0), .int .i64 ((rd_T41 (rd_KK l2 0) x15_1).f3.f1)] 41 (0, 0)) (by (with_reducible repeat (first | refine blk_drewN ?_ _ | refine blk_drew ?_ | refine blk_alloc ?_ _)); exact BK131.out)) : gb131 ≠ gb145))
                          have n6_ := Aside0.mk ((by rw [hg]; exact Nat.ne_of_gt (blk_lt (g := gb131) (o := .cells #[.bool ((rd_T41 (rd_KK l2 0) x15_1).f0), .bool ((rd_T41 (rd_KK l2 0) x15_1).f1), .string ((rd_T41 (rd_KK l2 0) x15_1).f2), .int .i64 ((rd_T41 (rd_KK l2 0) x15_1).f3.f0), .int .i64 ((rd_T41 (rd_KK l2 0) x15_1).f3.f1)] 41 (0, 0)) (by (with_reducible repeat (first | refine blk_drewN ?_ _ | refine blk_drew ?_ | refine blk_alloc ?_ _)); exact BK131.out)) : gb145 ≠ gb131))
                          have z_NB145_144 := fun (h0_ : up b 13 12 = true) (h1_ : up b 13 13 = true) => (show gb145 ≠ gb144 from ((by rw [hg]; exact Nat.ne_of_gt (blk_lt (g := gb144) (o := .cells #[.bool false, .bool false, .string (⟨#[]⟩ : ByteArray), .int .i64 0, .int .i64 0] 41 (0, 0)) (by (with_reducible repeat (first | refine blk_drewN ?_ _ | refine blk_drew ?_ | refine blk_alloc ?_ _)); exact (Q_BK144 (show b 12 = true from h0_) (hoff 14 (by kernel_rfl))))) : gb145 ≠ gb144)))
                          have z_NB144_145 := fun (h0_ : up b 13 12 = true) (h1_ : up b 13 13 = true) => (show gb144 ≠ gb145 from ((by rw [hg]; exact Nat.ne_of_lt (blk_lt (g := gb144) (o := .cells #[.bool false, .bool false, .string (⟨#[]⟩ : ByteArray), .int .i64 0, .int .i64 0] 41 (0, 0)) (by (with_reducible repeat (first | refine blk_drewN ?_ _ | refine blk_drew ?_ | refine blk_alloc ?_ _)); exact (Q_BK144 (show b 12 = true from h0_) (hoff 14 (by kernel_rfl))))) : gb144 ≠ gb145)))
                          have z_BK144 := fun (h0_ : b 12 = true) (h1_ : b 14 = false) => (show w20.heap[gb144]? = some (.cells #[.bool false, .bool false, .string (⟨#[]⟩ : ByteArray), .int .i64 0, .int .i64 0] 41 (0, 0)) from by first | exact (blk_below (g := gb144) (o := .cells #[.bool false, .bool false, .string (⟨#[]⟩ : ByteArray), .int .i64 0, .int .i64 0] 41 (0, 0)) (by (with_reducible repeat (first | refine blk_drewN ?_ _ | refine blk_drew ?_ | refine blk_alloc ?_ _)); exact (Q_BK144 h0_ h1_)) hb))
                          clear BK131
                          clear HB
                          have BK131 := n0_
                          have HB := n1_
                          have BK145 := n2_
                          have GW145 := n3_
                          have GE145 := n4_
                          have NB131_145 := n5_
                          have NB145_131 := n6_
                          clear n0_ n1_ n2_ n3_ n4_ n5_ n6_
                          clear hb hbox hg
                          refine hK.out _ _ ⟨gb144, gb145, m12_, (.pointer (some ⟨gb145, 0, none⟩)), (by rw [ha.out]; exact putSel_upk 9 hb_ rfl rfl rfl), (by (with_reducible repeat (first | refine blk_drewN ?_ _ | refine blk_drew ?_ | refine blk_alloc ?_ _)); exact BK131.out), (by repeat (first | (with_reducible first | exact HB.out | apply below_alloc | apply pw_below_drewN | apply below_drew1 | refine below_set ?_ GE131.out | refine below_set ?_ GE145.out) | exact HB.out)), @z_NB145_144, @z_NB144_145, z_BK144, Q_GW144, Q_GE144, Q_NB131_144, Q_NB144_131, fun _ _ => (by (with_reducible repeat (first | refine blk_drewN ?_ _ | refine blk_drew ?_ | refine blk_alloc ?_ _)); exact BK145.out), fun _ => GW145.out, fun _ => GE145.out, fun _ => NB131_145.out, fun _ => NB145_131.out, fun h0_ => absurd ((hoff 14 (by kernel_rfl)).symm.trans h0_) (by decide), fun h0_ => absurd ((hoff 15 (by kernel_rfl)).symm.trans h0_) (by decide), Q_X12_, fun _ => rfl⟩
                        refine steps_cons ?_ ?_
                        · rintro b a w' ⟨gb144, gb145, m12_, m13_, ha, Q_BK131, Q_HB, Q_NB145_144, Q_NB144_145, Q_BK144, Q_GW144, Q_GE144, Q_NB131_144, Q_NB144_131, Q_BK145, Q_GW145, Q_GE145, Q_NB131_145, Q_NB145_131, Q_BK144_e14, Q_BK145_e15, Q_X12_, Q_X13_⟩ hb_ hon hoff
                          refine ⟨_, rfl, fun K hK => ?_⟩
                          have e8 : a.tmps[8]? = some (m12_) := by rw [ha]; exact putSel_on (e := (12, 8, m12_)) 8 rfl rfl (hon 12 (by kernel_rfl)) rfl
                          rw [Q_X12_ (hon 12 (by kernel_rfl))] at e8
                          have e25 : a.tmps[25]? = some (.agg #[.bool t133, .bool t134, .string t135, .int .i64 t136, .int .i64 t137]) := by rw [ha]; exact putSel_on (e := (5, 25, .agg #[.bool t133, .bool t134, .string t135, .int .i64 t136, .int .i64 t137])) 3 rfl rfl (hon 5 (by kernel_rfl)) rfl
                          replace ha := Aside0.mk ha
                          have BK131 := Aside0.mk Q_BK131
                          have HB := Aside0.mk Q_HB
                          have NB145_144 := Aside0.mk (Q_NB145_144 (hon 12 (by kernel_rfl)) (hon 13 (by kernel_rfl)))
                          have NB144_145 := Aside0.mk (Q_NB144_145 (hon 12 (by kernel_rfl)) (hon 13 (by kernel_rfl)))
                          have BK144 := Aside0.mk (Q_BK144 (hon 12 (by kernel_rfl)) hb_)
                          have GW144 := Aside0.mk (Q_GW144 (hon 12 (by kernel_rfl)))
                          have GE144 := Aside0.mk (Q_GE144 (hon 12 (by kernel_rfl)))
                          have NB131_144 := Aside0.mk (Q_NB131_144 (hon 12 (by kernel_rfl)))
                          have NB144_131 := Aside0.mk (Q_NB144_131 (hon 12 (by kernel_rfl)))
                          have BK145 := Aside0.mk (Q_BK145 (hon 13 (by kernel_rfl)) (hoff 15 (by kernel_rfl)))
                          have GW145 := Aside0.mk (Q_GW145 (hon 13 (by kernel_rfl)))
                          have GE145 := Aside0.mk (Q_GE145 (hon 13 (by kernel_rfl)))
                          have NB131_145 := Aside0.mk (Q_NB131_145 (hon 13 (by kernel_rfl)))
                          have NB145_131 := Aside0.mk (Q_NB145_131 (hon 13 (by kernel_rfl)))
                          have hs25 : w'.cell? ⟨gb144, 0, none⟩ = some (.bool false) := (blk_cell BK144.out 0).trans rfl
                          have hfs25 := blk_frozen BK144.out 0
                          have hns25_0 := NB131_144.out
                          have hns25_2 := NB145_144.out
                          have hms25_0 := NB144_131.out
                          have hms25_2 := NB144_145.out
                          have hs26 : w'.cell? ⟨gb144, 1, none⟩ = some (.bool false) := (blk_cell BK144.out 1).trans rfl
                          have hfs26 := blk_frozen BK144.out 1
                          have hns26_0 := NB131_144.out
                          have hns26_2 := NB145_144.out
                          have hms26_0 := NB144_131.out
                          have hms26_2 := NB144_145.out
                          have hs27 : w'.cell? ⟨gb144, 2, none⟩ = some (.string (⟨#[]⟩ : ByteArray)) := (blk_cell BK144.out 2).trans rfl
                          have hfs27 := blk_frozen BK144.out 2
                          have hns27_0 := NB131_144.out
                          have hns27_2 := NB145_144.out
                          have hms27_0 := NB144_131.out
                          have hms27_2 := NB144_145.out
                          have hs28 : w'.cell? ⟨gb144, 3, none⟩ = some (.int .i64 0) := (blk_cell BK144.out 3).trans rfl
                          have hfs28 := blk_frozen BK144.out 3
                          have hns28_0 := NB131_144.out
                          have hns28_2 := NB145_144.out
                          have hms28_0 := NB144_131.out
                          have hms28_2 := NB144_145.out
                          have hs29 : w'.cell? ⟨gb144, 4, none⟩ = some (.int .i64 0) := (blk_cell BK144.out 4).trans rfl
                          have hfs29 := blk_frozen BK144.out 4
                          have hns29_0 := NB131_144.out
                          have hns29_2 := NB145_144.out
                          have hms29_0 := NB144_131.out
                          have hms29_2 := NB144_145.out
                          refine skip_ (w1 := ?_) (by rfl) rfl ?_ ?_
                          rotate_left
                          · go_simp
                            rfl
                          refine hK.out _ _ ⟨gb144, gb145, m12_, m13_, (by rw [ha.out]; exact putSel_none (v := undef) rfl), (by (with_reducible repeat (first | refine blk_drewN ?_ _ | refine blk_drew ?_ | refine blk_alloc ?_ _)); refine blk_far ?_ NB131_144.out _; (with_reducible repeat (first | refine blk_drewN ?_ _ | refine blk_drew ?_ | refine blk_alloc ?_ _)); refine blk_far ?_ NB131_144.out _; (with_reducible repeat (first | refine blk_drewN ?_ _ | refine blk_drew ?_ | refine blk_alloc ?_ _)); refine blk_far ?_ NB131_144.out _; (with_reducible repeat (first | refine blk_drewN ?_ _ | refine blk_drew ?_ | refine blk_alloc ?_ _)); refine blk_far ?_ NB131_144.out _; (with_reducible repeat (first | refine blk_drewN ?_ _ | refine blk_drew ?_ | refine blk_alloc ?_ _)); refine blk_far ?_ NB131_144.out _; (with_reducible repeat (first | refine blk_drewN ?_ _ | refine blk_drew ?_ | refine blk_alloc ?_ _)); exact BK131.out), (by repeat (first | (with_reducible first | exact HB.out | apply below_alloc | apply pw_below_drewN | apply below_drew1 | refine below_set ?_ GE131.out | refine below_set ?_ GE144.out | refine below_set ?_ GE145.out) | exact HB.out)), fun _ _ => NB145_144.out, fun _ _ => NB144_145.out, fun _ h1_ => absurd ((up_self b 14).symm.trans h1_) (by decide), fun _ => GW144.out, fun _ => GE144.out, fun _ => NB131_144.out, fun _ => NB144_131.out, fun _ _ => (by (with_reducible repeat (first | refine blk_drewN ?_ _ | refine blk_drew ?_ | refine blk_alloc ?_ _)); refine blk_far ?_ NB145_144.out _; (with_reducible repeat (first | refine blk_drewN ?_ _ | refine blk_drew ?_ | refine blk_alloc ?_ _)); refine blk_far ?_ NB145_144.out _; (with_reducible repeat (first | refine blk_drewN ?_ _ | refine blk_drew ?_ | refine blk_alloc ?_ _)); refine blk_far ?_ NB145_144.out _; (with_reducible repeat (first | refine blk_drewN ?_ _ | refine blk_drew ?_ | refine blk_alloc ?_ _)); refine blk_far ?_ NB145_144.out _; (with_reducible repeat (first | refine blk_drewN ?_ _ | refine blk_drew ?_ | refine blk_alloc ?_ _)); refine blk_far ?_ NB145_144.out _; (with_reducible repeat (first | refine blk_drewN ?_ _ | refine blk_drew ?_ | refine blk_alloc ?_ _)); exact BK145.out), fun _ => GW145.out, fun _ => GE145.out, fun _ => NB131_145.out, fun _ => NB145_131.out, fun _ => (by (with_reducible repeat (first | refine blk_drewN ?_ _ | refine blk_drew ?_ | refine blk_alloc ?_ _)); refine blk_put (cs := #[.bool t133, .bool t134, .string t135, .int .i64 t136, .int .i64 0]) ?_ 4 _ rfl; (with_reducible repeat (first | refine blk_drewN ?_ _ | refine blk_drew ?_ | refine blk_alloc ?_ _)); refine blk_put (cs := #[.bool t133, .bool t134, .string t135, .int .i64 0, .int .i64 0]) ?_ 3 _ rfl; (with_reducible repeat (first | refine blk_drewN ?_ _ | refine blk_drew ?_ | refine blk_alloc ?_ _)); refine blk_put (cs := #[.bool t133, .bool t134, .string (⟨#[]⟩ : ByteArray), .int .i64 0, .int .i64 0]) ?_ 2 _ rfl; (with_reducible repeat (first | refine blk_drewN ?_ _ | refine blk_drew ?_ | refine blk_alloc ?_ _)); refine blk_put (cs := #[.bool t133, .bool false, .string (⟨#[]⟩ : ByteArray), .int .i64 0, .int .i64 0]) ?_ 1 _ rfl; (with_reducible repeat (first | refine blk_drewN ?_ _ | refine blk_drew ?_ | refine blk_alloc ?_ _)); refine blk_put (cs := #[.bool false, .bool false, .string (⟨#[]⟩ : ByteArray), .int .i64 0, .int .i64 0]) ?_ 0 _ rfl; (with_reducible repeat (first | refine blk_drewN ?_ _ | refine blk_drew ?_ | refine blk_alloc ?_ _)); exact BK144.out), fun h0_ => absurd ((hoff 15 (by kernel_rfl)).symm.trans h0_) (by decide), Q_X12_, Q_X13_⟩
                        refine steps_cons ?_ ?_
                        · rintro b a w' ⟨gb144, gb145, m12_, m13_, ha, Q_BK131, Q_HB, Q_NB145_144, Q_NB144_145, Q_BK144, Q_GW144, Q_GE144, Q_NB131_144, Q_NB144_131, Q_BK145, Q_GW145, Q_GE145, Q_NB131_145, Q_NB145_131, Q_BK144_e14, Q_BK145_e15, Q_X12_, Q_X13_⟩ hb_ hon hoff
                          refine ⟨_, rfl, fun K hK => ?_⟩
                          have e9 : a.tmps[9]? = some (m13_) := by rw [ha]; exact putSel_on (e := (13, 9, m13_)) 9 rfl rfl (hon 13 (by kernel_rfl)) rfl
                          rw [Q_X13_ (hon 13 (by kernel_rfl))] at e9
                          have e31 : a.tmps[31]? = some (.agg #[.bool t139, .bool t140, .string t141, .int .i64 t142, .int .i64 t143]) := by rw [ha]; exact putSel_on (e := (11, 31, .agg #[.bool t139, .bool t140, .string t141, .int .i64 t142, .int .i64 t143])) 7 rfl rfl (hon 11 (by kernel_rfl)) rfl
                          replace ha := Aside0.mk ha
                          have BK131 := Aside0.mk Q_BK131
                          have HB := Aside0.mk Q_HB
                          have NB145_144 := Aside0.mk (Q_NB145_144 (hon 12 (by kernel_rfl)) (hon 13 (by kernel_rfl)))
                          have NB144_145 := Aside0.mk (Q_NB144_145 (hon 12 (by kernel_rfl)) (hon 13 (by kernel_rfl)))
                          have GW144 := Aside0.mk (Q_GW144 (hon 12 (by kernel_rfl)))
                          have GE144 := Aside0.mk (Q_GE144 (hon 12 (by kernel_rfl)))
                          have NB131_144 := Aside0.mk (Q_NB131_144 (hon 12 (by kernel_rfl)))
                          have NB144_131 := Aside0.mk (Q_NB144_131 (hon 12 (by kernel_rfl)))
                          have BK145 := Aside0.mk (Q_BK145 (hon 13 (by kernel_rfl)) hb_)
                          have GW145 := Aside0.mk (Q_GW145 (hon 13 (by kernel_rfl)))
                          have GE145 := Aside0.mk (Q_GE145 (hon 13 (by kernel_rfl)))
                          have NB131_145 := Aside0.mk (Q_NB131_145 (hon 13 (by kernel_rfl)))
                          have NB145_131 := Aside0.mk (Q_NB145_131 (hon 13 (by kernel_rfl)))
                          have BK144 := Aside0.mk (Q_BK144_e14 (hon 14 (by kernel_rfl)))
                          have hs30 : w'.cell? ⟨gb145, 0, none⟩ = some (.bool false) := (blk_cell BK145.out 0).trans rfl
                          have hfs30 := blk_frozen BK145.out 0
                          have hns30_0 := NB131_145.out
                          have hns30_1 := NB144_145.out
                          have hms30_0 := NB145_131.out
                          have hms30_1 := NB145_144.out
                          have hs31 : w'.cell? ⟨gb145, 1, none⟩ = some (.bool false) := (blk_cell BK145.out 1).trans rfl
                          have hfs31 := blk_frozen BK145.out 1
                          have hns31_0 := NB131_145.out
                          have hns31_1 := NB144_145.out
                          have hms31_0 := NB145_131.out
                          have hms31_1 := NB145_144.out
                          have hs32 : w'.cell? ⟨gb145, 2, none⟩ = some (.string (⟨#[]⟩ : ByteArray)) := (blk_cell BK145.out 2).trans rfl
                          have hfs32 := blk_frozen BK145.out 2
                          have hns32_0 := NB131_145.out
                          have hns32_1 := NB144_145.out
                          have hms32_0 := NB145_131.out
                          have hms32_1 := NB145_144.out
                          have hs33 : w'.cell? ⟨gb145, 3, none⟩ = some (.int .i64 0) := (blk_cell BK145.out 3).trans rfl
                          have hfs33 := blk_frozen BK145.out 3
                          have hns33_0 := NB131_145.out
                          have hns33_1 := NB144_145.out
                          have hms33_0 := NB145_131.out
                          have hms33_1 := NB145_144.out
                          have hs34 : w'.cell? ⟨gb145, 4, none⟩ = some (.int .i64 0) := (blk_cell BK145.out 4).trans rfl
                          have hfs34 := blk_frozen BK145.out 4
                          have hns34_0 := NB131_145.out
                          have hns34_1 := NB144_145.out
                          have hms34_0 := NB145_131.out
                          have hms34_1 := NB145_144.out
                          refine skip_ (w1 := ?_) (by rfl) rfl ?_ ?_
                          rotate_left
                          · go_simp
                            rfl
                          refine hK.out _ _ ⟨gb144, gb145, m12_, m13_, (by rw [ha.out]; exact putSel_none (v := undef) rfl), (by (with_reducible repeat (first | refine blk_drewN ?_ _ | refine blk_drew ?_ | refine blk_alloc ?_ _)); refine blk_far ?_ NB131_145.out _; (with_reducible repeat (first | refine blk_drewN ?_ _ | refine blk_drew ?_ | refine blk_alloc ?_ _)); refine blk_far ?_ NB131_145.out _; (with_reducible repeat (first | refine blk_drewN ?_ _ | refine blk_drew ?_ | refine blk_alloc ?_ _)); refine blk_far ?_ NB131_145.out _; (with_reducible repeat (first | refine blk_drewN ?_ _ | refine blk_drew ?_ | refine blk_alloc ?_ _)); refine blk_far ?_ NB131_145.out _; (with_reducible repeat (first | refine blk_drewN ?_ _ | refine blk_drew ?_ | refine blk_alloc ?_ _)); refine blk_far ?_ NB131_145.out _; (with_reducible repeat (first | refine blk_drewN ?_ _ | refine blk_drew ?_ | refine blk_alloc ?_ _)); exact BK131.out), (by repeat (first | (with_reducible first | exact HB.out | apply below_alloc | apply pw_below_drewN | apply below_drew1 | refine below_set ?_ GE131.out | refine below_set ?_ GE144.out | refine below_set ?_ GE145.out) | exact HB.out)), fun _ _ => NB145_144.out, fun _ _ => NB144_145.out, fun _ h1_ => absurd ((hon 14 (by kernel_rfl)).symm.trans h1_) (by decide), fun _ => GW144.out, fun _ => GE144.out, fun _ => NB131_144.out, fun _ => NB144_131.out, fun _ h1_ => absurd ((up_self b 15).symm.trans h1_) (by decide), fun _ => GW145.out, fun _ => GE145.out, fun _ => NB131_145.out, fun _ => NB145_131.out, fun _ => (by (with_reducible repeat (first | refine blk_drewN ?_ _ | refine blk_drew ?_ | refine blk_alloc ?_ _)); refine blk_far ?_ NB144_145.out _; (with_reducible repeat (first | refine blk_drewN ?_ _ | refine blk_drew ?_ | refine blk_alloc ?_ _)); refine blk_far ?_ NB144_145.out _; (with_reducible repeat (first | refine blk_drewN ?_ _ | refine blk_drew ?_ | refine blk_alloc ?_ _)); refine blk_far ?_ NB144_145.out _; (with_reducible repeat (first | refine blk_drewN ?_ _ | refine blk_drew ?_ | refine blk_alloc ?_ _)); refine blk_far ?_ NB144_145.out _; (with_reducible repeat (first | refine blk_drewN ?_ _ | refine blk_drew ?_ | refine blk_alloc ?_ _)); refine blk_far ?_ NB144_145.out _; (with_reducible repeat (first | refine blk_drewN ?_ _ | refine blk_drew ?_ | refine blk_alloc ?_ _)); exact BK144.out), fun _ => (by (with_reducible repeat (first | refine blk_drewN ?_ _ | refine blk_drew ?_ | refine blk_alloc ?_ _)); refine blk_put (cs := #[.bool t139, .bool t140, .string t141, .int .i64 t142, .int .i64 0]) ?_ 4 _ rfl; (with_reducible repeat (first | refine blk_drewN ?_ _ | refine blk_drew ?_ | refine blk_alloc ?_ _)); refine blk_put (cs := #[.bool t139, .bool t140, .string t141, .int .i64 0, .int .i64 0]) ?_ 3 _ rfl; (with_reducible repeat (first | refine blk_drewN ?_ _ | refine blk_drew ?_ | refine blk_alloc ?_ _)); refine blk_put (cs := #[.bool t139, .bool t140, .string (⟨#[]⟩ : ByteArray), .int .i64 0, .int .i64 0]) ?_ 2 _ rfl; (with_reducible repeat (first | refine blk_drewN ?_ _ | refine blk_drew ?_ | refine blk_alloc ?_ _)); refine blk_put (cs := #[.bool t139, .bool false, .string (⟨#[]⟩ : ByteArray), .int .i64 0, .int .i64 0]) ?_ 1 _ rfl; (with_reducible repeat (first | refine blk_drewN ?_ _ | refine blk_drew ?_ | refine blk_alloc ?_ _)); refine blk_put (cs := #[.bool false, .bool false, .string (⟨#[]⟩ : ByteArray), .int .i64 0, .int .i64 0]) ?_ 0 _ rfl; (with_reducible repeat (first | refine blk_drewN ?_ _ | refine blk_drew ?_ | refine blk_alloc ?_ _)); exact BK145.out), Q_X12_, Q_X13_⟩
                        exact steps_nil
                      rintro b a w34 hall ⟨gb144, gb145, m12_, m13_, ha, Q_BK131, Q_HB, Q_NB145_144, Q_NB144_145, Q_BK144, Q_GW144, Q_GE144, Q_NB131_144, Q_NB144_131, Q_BK145, Q_GW145, Q_GE145, Q_NB131_145, Q_NB145_131, Q_BK144_e14, Q_BK145_e15, Q_X12_, Q_X13_⟩
                      clear BK131 HB
                      have hb0_ := hall 0 (by kernel_rfl)
                      have hb2_ := hall 2 (by kernel_rfl)
                      have hb3_ := hall 3 (by kernel_rfl)
                      have hb5_ := hall 5 (by kernel_rfl)
                      have hb6_ := hall 6 (by kernel_rfl)
                      have hb8_ := hall 8 (by kernel_rfl)
                      have hb9_ := hall 9 (by kernel_rfl)
                      have hb11_ := hall 11 (by kernel_rfl)
                      have hb12_ := hall 12 (by kernel_rfl)
                      have hb13_ := hall 13 (by kernel_rfl)
                      have hb14_ := hall 14 (by kernel_rfl)
                      have hb15_ := hall 15 (by kernel_rfl)
                      subst ha
                      obtain rfl := Q_X12_ hb12_
                      obtain rfl := Q_X13_ hb13_
                      simp only [putSel, hb0_, hb2_, hb3_, hb5_, hb6_, hb8_, hb9_, hb11_, hb12_, hb13_, hb14_, hb15_, if_true, Act.put, List.setIfInBounds_toArray, List.set_cons_zero, List.set_cons_succ]
                      have BK131 := Aside0.mk Q_BK131
                      clear Q_BK131
                      have HB := Aside0.mk Q_HB
                      clear Q_HB
                      have NB145_144 := Aside0.mk (Q_NB145_144 hb12_ hb13_)
                      clear Q_NB145_144
                      have NB144_145 := Aside0.mk (Q_NB144_145 hb12_ hb13_)
                      clear Q_NB144_145
                      clear Q_BK144
                      have GW144 := Aside0.mk (Q_GW144 hb12_)
                      clear Q_GW144
                      have GE144 := Aside0.mk (Q_GE144 hb12_)
                      clear Q_GE144
                      have NB131_144 := Aside0.mk (Q_NB131_144 hb12_)
                      clear Q_NB131_144
                      have NB144_131 := Aside0.mk (Q_NB144_131 hb12_)
                      clear Q_NB144_131
                      clear Q_BK145
                      have GW145 := Aside0.mk (Q_GW145 hb13_)
                      clear Q_GW145
                      have GE145 := Aside0.mk (Q_GE145 hb13_)
                      clear Q_GE145
                      have NB131_145 := Aside0.mk (Q_NB131_145 hb13_)
                      clear Q_NB131_145
                      have NB145_131 := Aside0.mk (Q_NB145_131 hb13_)
                      clear Q_NB145_131
                      have BK144 := Aside0.mk (Q_BK144_e14 hb14_)
                      clear Q_BK144_e14
                      have BK145 := Aside0.mk (Q_BK145_e15 hb15_)
                      clear Q_BK145_e15
                      clear hall hb0_ hb2_ hb3_ hb5_ hb6_ hb8_ hb9_ hb11_ hb12_ hb13_ hb14_ hb15_
                      have hnb35 := NB144_131.out
                      have hnc35 := NB131_144.out
                      have hnb36 := NB144_145.out
                      have hnc36 := NB145_144.out
                      have hcz37_0 : w34.cell? ⟨gb144, 0, none⟩ = some (.bool t133) := (blk_cell BK144.out 0).trans rfl
                      have hcz37_1 : w34.cell? ⟨gb144, 1, none⟩ = some (.bool t134) := (blk_cell BK144.out 1).trans rfl
                      have hcz37_2 : w34.cell? ⟨gb144, 2, none⟩ = some (.string t135) := (blk_cell BK144.out 2).trans rfl
                      have hcz37_3 : w34.cell? ⟨gb144, 3, none⟩ = some (.int .i64 t136) := (blk_cell BK144.out 3).trans rfl
                      have hcz37_4 : w34.cell? ⟨gb144, 4, none⟩ = some (.int .i64 t137) := (blk_cell BK144.out 4).trans rfl
                      have hfz37_0 := blk_frozen BK144.out 0
                      have hfz37_1 := blk_frozen BK144.out 1
                      have hfz37_2 := blk_frozen BK144.out 2
                      have hfz37_3 := blk_frozen BK144.out 3
                      have hfz37_4 := blk_frozen BK144.out 4
                      have hnb38 := NB145_131.out
                      have hnc38 := NB131_145.out
                      have hcz39_0 : w34.cell? ⟨gb145, 0, none⟩ = some (.bool t139) := (blk_cell BK145.out 0).trans rfl
                      have hcz39_1 : w34.cell? ⟨gb145, 1, none⟩ = some (.bool t140) := (blk_cell BK145.out 1).trans rfl
                      have hcz39_2 : w34.cell? ⟨gb145, 2, none⟩ = some (.string t141) := (blk_cell BK145.out 2).trans rfl
                      have hcz39_3 : w34.cell? ⟨gb145, 3, none⟩ = some (.int .i64 t142) := (blk_cell BK145.out 3).trans rfl
                      have hcz39_4 : w34.cell? ⟨gb145, 4, none⟩ = some (.int .i64 t143) := (blk_cell BK145.out 4).trans rfl
                      have hfz39_0 := blk_frozen BK145.out 0
                      have hfz39_1 := blk_frozen BK145.out 1
                      have hfz39_2 := blk_frozen BK145.out 2
                      have hfz39_3 := blk_frozen BK145.out 3
                      have hfz39_4 := blk_frozen BK145.out 4
                      go_upto_if 38 with (first | ((with_reducible refine gate_callee (f := 28) rfl ?_); refine goesL_ (some 36) rfl rfl Tryd.func28 (by kernel_rfl) rfl #[.string t135, .string t141] rfl (by (try simp only [List.map_toArray, List.map_cons, List.map_nil]); first | done | rfl | (simp only [List.length_drop, List.length_take]; rfl)) ?_; (with_reducible refine (cmp_Compare_string.calls t135 t141 t146 _ ?side1 A14.out).mono ?_); (case side1 => first | exact HLD | exact Laid.below HLD (by repeat (first | (with_reducible first | exact HB.out | apply below_alloc | apply pw_below_drewN | apply below_drew1 | refine below_set ?_ GE131.out | refine below_set ?_ GE144.out | refine below_set ?_ GE145.out) | exact HB.out))); rintro e w' ⟨rfl, ⟨nd, rfl⟩⟩; refine ⟨_, rfl, ?_⟩; have hcz40_0 : w34.cell? ⟨gb131, 0, none⟩ = some (.bool ((rd_T41 (rd_KK l2 0) x15_1).f0)) := (blk_cell BK131.out 0).trans rfl; have hcz40_1 : w34.cell? ⟨gb131, 1, none⟩ = some (.bool ((rd_T41 (rd_KK l2 0) x15_1).f1)) := (blk_cell BK131.out 1).trans rfl; have hcz40_2 : w34.cell? ⟨gb131, 2, none⟩ = some (.string ((rd_T41 (rd_KK l2 0) x15_1).f2)) := (blk_cell BK131.out 2).trans rfl; have hcz40_3 : w34.cell? ⟨gb131, 3, none⟩ = some (.int .i64 ((rd_T41 (rd_KK l2 0) x15_1).f3.f0)) := (blk_cell BK131.out 3).trans rfl; have hcz40_4 : w34.cell? ⟨gb131, 4, none⟩ = some (.int .i64 ((rd_T41 (rd_KK l2 0) x15_1).f3.f1)) := (blk_cell BK131.out 4).trans rfl; have hfz40_0 := blk_frozen BK131.out 0; have hfz40_1 := blk_frozen BK131.out 1; have hfz40_2 := blk_frozen BK131.out 2; have hfz40_3 := blk_frozen BK131.out 3; have hfz40_4 := blk_frozen BK131.out 4))
                      (try simp only [Act.put, List.setIfInBounds_toArray, List.set_cons_zero, List.set_cons_succ])
                      go_cut [10] (fun v10 wc => ∃ (kq : Nat) (x10_14 : Int), v10 = .int .i64 x10_14 ∧ Aside0 (xsort_Order1.j1 kq a0 a1 l2 x10_14 (rd_KK l2 0) ((rd_KK l2 0).length : Int) x15_1 ((rd_T41 (rd_KK l2 0) x15_1).f0) ((rd_T41 (rd_KK l2 0) x15_1).f1) ((rd_T41 (rd_KK l2 0) x15_1).f2) ((rd_T41 (rd_KK l2 0) x15_1).f3.f0) ((rd_T41 (rd_KK l2 0) x15_1).f3.f1) = some r) ∧ Aside0 (kq ≤ k1) ∧ Aside0 (wc.heap[gb131]? = some (.cells #[.bool ((rd_T41 (rd_KK l2 0) x15_1).f0), .bool ((rd_T41 (rd_KK l2 0) x15_1).f1), .string ((rd_T41 (rd_KK l2 0) x15_1).f2), .int .i64 ((rd_T41 (rd_KK l2 0) x15_1).f3.f0), .int .i64 ((rd_T41 (rd_KK l2 0) x15_1).f3.f1)] 41 (0, 0))) ∧ Aside0 (wc.heap[gb144]? = some (.cells #[.bool t133, .bool t134, .string t135, .int .i64 t136, .int .i64 t137] 41 (0, 0))) ∧ Aside0 (wc.heap[gb145]? = some (.cells #[.bool t139, .bool t140, .string t141, .int .i64 t142, .int .i64 t143] 41 (0, 0))) ∧ Aside0 (Below w.heap.size w wc))
                      case first =>
                        have H := HC15.out
                        clear HC15
                        obtain ⟨bq41, hbq41⟩ : ∃ b_ : Bool, b_ = ((rd_T41 (rd_KK l2 0) x15_1).f0) := ⟨_, rfl⟩
                        replace H : (if bq41 = true then ((xsort_numbers.f k1 t136 t137 t142 t143).bind fun t147 => (xsort_Order1.j1 k1 a0 a1 l2 t147 (rd_KK l2 0) ((rd_KK l2 0).length : Int) x15_1 bq41 ((rd_T41 (rd_KK l2 0) x15_1).f1) ((rd_T41 (rd_KK l2 0) x15_1).f2) ((rd_T41 (rd_KK l2 0) x15_1).f3.f0) ((rd_T41 (rd_KK l2 0) x15_1).f3.f1))) else (xsort_Order1.j1 k1 a0 a1 l2 t146 (rd_KK l2 0) ((rd_KK l2 0).length : Int) x15_1 bq41 ((rd_T41 (rd_KK l2 0) x15_1).f1) ((rd_T41 (rd_KK l2 0) x15_1).f2) ((rd_T41 (rd_KK l2 0) x15_1).f3.f0) ((rd_T41 (rd_KK l2 0) x15_1).f3.f1))) = some r := by rw [← hbq41] at H; exact H
                        have Nbq41 := Aside0.mk hbq41
                        clear hbq41
                        (try rw [← Nbq41.out])
                        by_cases c42 : bq41 = true
                        · subst c42
                          have H1 : ((xsort_numbers.f k1 t136 t137 t142 t143).bind fun t147 => (xsort_Order1.j1 k1 a0 a1 l2 t147 (rd_KK l2 0) ((rd_KK l2 0).length : Int) x15_1 true ((rd_T41 (rd_KK l2 0) x15_1).f1) ((rd_T41 (rd_KK l2 0) x15_1).f2) ((rd_T41 (rd_KK l2 0) x15_1).f3.f0) ((rd_T41 (rd_KK l2 0) x15_1).f3.f1))) = some r := by rw [if_pos rfl] at H; exact H
                          clear H
                          have H := H1
                          clear H1
                          replace H := Option.bind_eq_some_iff.mp H
                          obtain ⟨t147, A430, H⟩ := H
                          replace H : (xsort_Order1.j1 k1 a0 a1 l2 t147 (rd_KK l2 0) ((rd_KK l2 0).length : Int) x15_1 true ((rd_T41 (rd_KK l2 0) x15_1).f1) ((rd_T41 (rd_KK l2 0) x15_1).f2) ((rd_T41 (rd_KK l2 0) x15_1).f3.f0) ((rd_T41 (rd_KK l2 0) x15_1).f3.f1)) = some r := H
                          have A43 := Aside0.mk A430
                          clear A430
                          (try rw [Nbq41.out] at H)
                          have H' := Aside0.mk H
                          clear H
                          have hnb44 := NB144_131.out
                          have hnc44 := NB131_144.out
                          have hnb45 := NB144_145.out
                          have hnc45 := NB145_144.out
                          have hcz46_0 : w34.cell? ⟨gb144, 0, none⟩ = some (.bool t133) := (blk_cell BK144.out 0).trans rfl
                          have hcz46_1 : w34.cell? ⟨gb144, 1, none⟩ = some (.bool t134) := (blk_cell BK144.out 1).trans rfl
                          have hcz46_2 : w34.cell? ⟨gb144, 2, none⟩ = some (.string t135) := (blk_cell BK144.out 2).trans rfl
                          have hcz46_3 : w34.cell? ⟨gb144, 3, none⟩ = some (.int .i64 t136) := (blk_cell BK144.out 3).trans rfl
                          have hcz46_4 : w34.cell? ⟨gb144, 4, none⟩ = some (.int .i64 t137) := (blk_cell BK144.out 4).trans rfl
                          have hfz46_0 := blk_frozen BK144.out 0
                          have hfz46_1 := blk_frozen BK144.out 1
                          have hfz46_2 := blk_frozen BK144.out 2
                          have hfz46_3 := blk_frozen BK144.out 3
                          have hfz46_4 := blk_frozen BK144.out 4
                          have hnb47 := NB145_131.out
                          have hnc47 := NB131_145.out
                          have hcz48_0 : w34.cell? ⟨gb145, 0, none⟩ = some (.bool t139) := (blk_cell BK145.out 0).trans rfl
                          have hcz48_1 : w34.cell? ⟨gb145, 1, none⟩ = some (.bool t140) := (blk_cell BK145.out 1).trans rfl
                          have hcz48_2 : w34.cell? ⟨gb145, 2, none⟩ = some (.string t141) := (blk_cell BK145.out 2).trans rfl
                          have hcz48_3 : w34.cell? ⟨gb145, 3, none⟩ = some (.int .i64 t142) := (blk_cell BK145.out 3).trans rfl
                          have hcz48_4 : w34.cell? ⟨gb145, 4, none⟩ = some (.int .i64 t143) := (blk_cell BK145.out 4).trans rfl
                          have hfz48_0 := blk_frozen BK145.out 0
                          have hfz48_1 := blk_frozen BK145.out 1
                          have hfz48_2 := blk_frozen BK145.out 2
                          have hfz48_3 := blk_frozen BK145.out 3
                          have hfz48_4 := blk_frozen BK145.out 4
                          go_wp2_with (first | ((with_reducible refine gate_callee (f := 29) rfl ?_); refine goesL_ (some 43) rfl rfl Tryd.func29 (by kernel_rfl) rfl #[.agg #[.int .i64 t136, .int .i64 t137], .agg #[.int .i64 t142, .int .i64 t143]] rfl (by (try simp only [List.map_toArray, List.map_cons, List.map_nil]); first | done | rfl | (simp only [List.length_drop, List.length_take]; rfl)) ?_; (with_reducible refine (xsort_numbers.calls k1 t136 t137 t142 t143 t147 _ ?side1 A43.out).mono ?_); (case side1 => first | exact HLD | exact Laid.below HLD (by repeat (first | (with_reducible first | exact HB.out | apply below_alloc | apply pw_below_drewN | apply below_drew1 | refine below_set ?_ GE131.out | refine below_set ?_ GE144.out | refine below_set ?_ GE145.out) | exact HB.out))); rintro e w49 ⟨rfl, hb⟩; refine ⟨_, rfl, ?_⟩; have n0_ := Aside0.mk (blk_below (g := gb131) (o := .cells #[.bool ((rd_T41 (rd_KK l2 0) x15_1).f0), .bool ((rd_T41 (rd_KK l2 0) x15_1).f1), .string ((rd_T41 (rd_KK l2 0) x15_1).f2), .int .i64 ((rd_T41 (rd_KK l2 0) x15_1).f3.f0), .int .i64 ((rd_T41 (rd_KK l2 0) x15_1).f3.f1)] 41 (0, 0)) (by (with_reducible repeat (first | refine blk_drewN ?_ _ | refine blk_drew ?_ | refine blk_alloc ?_ _)); exact BK131.out) hb); have n1_ := Aside0.mk (blk_below (g := gb144) (o := .cells #[.bool t133, .bool t134, .string t135, .int .i64 t136, .int .i64 t137] 41 (0, 0)) (by (with_reducible repeat (first | refine blk_drewN ?_ _ | refine blk_drew ?_ | refine blk_alloc ?_ _)); exact BK144.out) hb); have n2_ := Aside0.mk (blk_below (g := gb145) (o := .cells #[.bool t139, .bool t140, .string t141, .int .i64 t142, .int .i64 t143] 41 (0, 0)) (by (with_reducible repeat (first | refine blk_drewN ?_ _ | refine blk_drew ?_ | refine blk_alloc ?_ _)); exact BK145.out) hb); have n3_ := Aside0.mk (below_step (by repeat (first | (with_reducible first | exact HB.out | apply below_alloc | apply pw_below_drewN | apply below_drew1 | refine below_set ?_ GE131.out | refine below_set ?_ GE144.out | refine below_set ?_ GE145.out) | exact HB.out)) hb); clear BK131; clear BK144; clear BK145; clear HB; have BK131 := n0_; have BK144 := n1_; have BK145 := n2_; have HB := n3_; clear n0_ n1_ n2_ n3_; (try clear hb); (try clear hb2); (try clear hk); (try clear hi)))
                          go_meet
                          case rel => exact ⟨_, (t147), (by first | rfl | (simp; done) | (simp [*]; done)), H', ⟨by have := HK1.out; first | omega | exact Nat.le_refl _⟩, ⟨by (with_reducible repeat (first | refine blk_drewN ?_ _ | refine blk_drew ?_ | refine blk_alloc ?_ _)); exact BK131.out⟩, ⟨by (with_reducible repeat (first | refine blk_drewN ?_ _ | refine blk_drew ?_ | refine blk_alloc ?_ _)); exact BK144.out⟩, ⟨by (with_reducible repeat (first | refine blk_drewN ?_ _ | refine blk_drew ?_ | refine blk_alloc ?_ _)); exact BK145.out⟩, ⟨by repeat (first | (with_reducible first | exact HB.out | apply below_alloc | apply pw_below_drewN | apply below_drew1 | refine below_set ?_ GE131.out | refine below_set ?_ GE144.out | refine below_set ?_ GE145.out) | exact HB.out)⟩⟩
                        · replace c42 := Bool.eq_false_iff.mpr c42
                          subst c42
                          have H1 : (xsort_Order1.j1 k1 a0 a1 l2 t146 (rd_KK l2 0) ((rd_KK l2 0).length : Int) x15_1 false ((rd_T41 (rd_KK l2 0) x15_1).f1) ((rd_T41 (rd_KK l2 0) x15_1).f2) ((rd_T41 (rd_KK l2 0) x15_1).f3.f0) ((rd_T41 (rd_KK l2 0) x15_1).f3.f1)) = some r := by rw [if_neg (show ¬ (false = true) by decide)] at H; exact H
                          clear H
                          have H := H1
                          clear H1
                          (try rw [Nbq41.out] at H)
                          have H' := Aside0.mk H
                          clear H
                          go_wp2
                          go_meet
                          case rel => exact ⟨_, (t146), (by first | rfl | (simp; done) | (simp [*]; done)), H', ⟨by have := HK1.out; first | omega | exact Nat.le_refl _⟩, ⟨by (with_reducible repeat (first | refine blk_drewN ?_ _ | refine blk_drew ?_ | refine blk_alloc ?_ _)); exact BK131.out⟩, ⟨by (with_reducible repeat (first | refine blk_drewN ?_ _ | refine blk_drew ?_ | refine blk_alloc ?_ _)); exact BK144.out⟩, ⟨by (with_reducible repeat (first | refine blk_drewN ?_ _ | refine blk_drew ?_ | refine blk_alloc ?_ _)); exact BK145.out⟩, ⟨by repeat (first | (with_reducible first | exact HB.out | apply below_alloc | apply pw_below_drewN | apply below_drew1 | refine below_set ?_ GE131.out | refine below_set ?_ GE144.out | refine below_set ?_ GE145.out) | exact HB.out)⟩⟩
                      case rest =>
                        clear HC15
                        try clear c1
                        try clear p1
                        try clear q1
                        try clear hx1
                        try clear qi1
                        try clear c2
                        try clear p2
                        try clear c3
                        try clear c4
                        try clear c4b0
                        try clear c4b1
                        try clear q4
                        try clear c5
                        try clear c5b0
                        try clear c6
                        try clear c6b0
                        try clear c7
                        try clear c7b0
                        try clear c8
                        try clear c8b0
                        try clear c9
                        try clear c9b0
                        try clear c11
                        try clear c11b0
                        try clear c12
                        try clear c12b0
                        try clear p12
                        try clear q12
                        try clear hx12
                        try clear c13
                        try clear p13
                        try clear q13
                        try clear hx13
                        try clear c27
                        try clear c28
                        try clear c29
                        try clear c35
                        try clear c36
                        try clear c38
                        try clear q41
                        try clear c42
                        try clear c44
                        try clear c45
                        try clear c47
                        try clear hcz17_0
                        try clear hcz17_1
                        try clear hcz17_2
                        try clear hcz17_3
                        try clear hcz17_4
                        try clear hcz37_0
                        try clear hcz37_1
                        try clear hcz37_2
                        try clear hcz37_3
                        try clear hcz37_4
                        try clear hcz39_0
                        try clear hcz39_1
                        try clear hcz39_2
                        try clear hcz39_3
                        try clear hcz39_4
                        try clear hcz40_0
                        try clear hcz40_1
                        try clear hcz40_2
                        try clear hcz40_3
                        try clear hcz40_4
                        try clear hcz46_0
                        try clear hcz46_1
                        try clear hcz46_2
                        try clear hcz46_3
                        try clear hcz46_4
                        try clear hcz48_0
                        try clear hcz48_1
                        try clear hcz48_2
                        try clear hcz48_3
                        try clear hcz48_4
                        try clear hfz17_0
                        try clear hfz17_1
                        try clear hfz17_2
                        try clear hfz17_3
                        try clear hfz17_4
                        try clear hfz37_0
                        try clear hfz37_1
                        try clear hfz37_2
                        try clear hfz37_3
                        try clear hfz37_4
                        try clear hfz39_0
                        try clear hfz39_1
                        try clear hfz39_2
                        try clear hfz39_3
                        try clear hfz39_4
                        try clear hfz40_0
                        try clear hfz40_1
                        try clear hfz40_2
                        try clear hfz40_3
                        try clear hfz40_4
                        try clear hfz46_0
                        try clear hfz46_1
                        try clear hfz46_2
                        try clear hfz46_3
                        try clear hfz46_4
                        try clear hfz48_0
                        try clear hfz48_1
                        try clear hfz48_2
                        try clear hfz48_3
                        try clear hfz48_4
                        try clear hx129_0
                        try clear hx130_0
                        try clear hx130_1
                        try clear hx130_2
                        try clear hx130_3
                        try clear hx130_4
                        try clear hx132_0
                        try clear hx138_0
                        try clear p129
                        try clear p130
                        try clear p132
                        try clear p138
                        try clear p2
                        try clear q1
                        try clear q129
                        try clear q130
                        try clear q132
                        try clear q138
                        obtain ⟨kq, x10_14, rfl, HA, HJ14, BK131, BK144, BK145, HB⟩ := hcut
                        cases kq with
                        | zero => exact absurd HA.out (by simp [xsort_Order1.j1])
                        | succ kj14 =>
                          have H := HA.out
                          clear HA
                          simp only [xsort_Order1.j1] at H
                          by_cases c50 : ((rd_T41 (rd_KK l2 0) x15_1).f1) = true
                          · rw [if_pos c50] at H
                            have c50b0 : ((rd_T41 (rd_KK l2 0) x15_1).f1) = true := c50
                            clear c50
                            by_cases c51 : (wrap64 (-x10_14)) = 0
                            · rw [if_pos c51] at H
                              have c51b0 : ((wrap64 (-x10_14)) == 0) = true := beq_iff_eq.mpr c51
                              have c51b1 : ((wrap64 (-x10_14)) != 0) = false := bne_eq_false_iff_eq.mpr c51
                              clear c51
                              have H' := Aside0.mk H
                              clear H
                              have hnb52 := NB131_144.out
                              have hnc52 := NB144_131.out
                              have hnb53 := NB131_145.out
                              have hnc53 := NB145_131.out
                              have hcz54_0 : wc.cell? ⟨gb131, 0, none⟩ = some (.bool ((rd_T41 (rd_KK l2 0) x15_1).f0)) := (blk_cell BK131.out 0).trans rfl
                              have hcz54_1 : wc.cell? ⟨gb131, 1, none⟩ = some (.bool ((rd_T41 (rd_KK l2 0) x15_1).f1)) := (blk_cell BK131.out 1).trans rfl
                              have hcz54_2 : wc.cell? ⟨gb131, 2, none⟩ = some (.string ((rd_T41 (rd_KK l2 0) x15_1).f2)) := (blk_cell BK131.out 2).trans rfl
                              have hcz54_3 : wc.cell? ⟨gb131, 3, none⟩ = some (.int .i64 ((rd_T41 (rd_KK l2 0) x15_1).f3.f0)) := (blk_cell BK131.out 3).trans rfl
                              have hcz54_4 : wc.cell? ⟨gb131, 4, none⟩ = some (.int .i64 ((rd_T41 (rd_KK l2 0) x15_1).f3.f1)) := (blk_cell BK131.out 4).trans rfl
                              have hfz54_0 := blk_frozen BK131.out 0
                              have hfz54_1 := blk_frozen BK131.out 1
                              have hfz54_2 := blk_frozen BK131.out 2
                              have hfz54_3 := blk_frozen BK131.out 3
                              have hfz54_4 := blk_frozen BK131.out 4
                              go_wp2
                              go_roundg kj14
                              case measure => have := HK1.out; have := HJ14.out; omega
                              case rel => exact ⟨(wrap64 (x15_1 + 1)), (by first | rfl | (simp; done) | (simp [*]; done)), H', ⟨by have := HK1.out; have := HJ14.out; omega⟩, ⟨by repeat (first | (with_reducible first | exact HB.out | apply below_alloc | apply pw_below_drewN | apply below_drew1 | refine below_set ?_ GE131.out | refine below_set ?_ GE144.out | refine below_set ?_ GE145.out) | exact HB.out)⟩⟩
                            · rw [if_neg c51] at H
                              have c51b0 : ((wrap64 (-x10_14)) == 0) = false := beq_eq_false_iff_ne.mpr c51
                              have c51b1 : ((wrap64 (-x10_14)) != 0) = true := bne_iff_ne.mpr c51
                              obtain rfl := Option.some.inj H
                              have hnb55 := NB131_144.out
                              have hnc55 := NB144_131.out
                              have hnb56 := NB131_145.out
                              have hnc56 := NB145_131.out
                              have hcz57_0 : wc.cell? ⟨gb131, 0, none⟩ = some (.bool ((rd_T41 (rd_KK l2 0) x15_1).f0)) := (blk_cell BK131.out 0).trans rfl
                              have hcz57_1 : wc.cell? ⟨gb131, 1, none⟩ = some (.bool ((rd_T41 (rd_KK l2 0) x15_1).f1)) := (blk_cell BK131.out 1).trans rfl
                              have hcz57_2 : wc.cell? ⟨gb131, 2, none⟩ = some (.string ((rd_T41 (rd_KK l2 0) x15_1).f2)) := (blk_cell BK131.out 2).trans rfl
                              have hcz57_3 : wc.cell? ⟨gb131, 3, none⟩ = some (.int .i64 ((rd_T41 (rd_KK l2 0) x15_1).f3.f0)) := (blk_cell BK131.out 3).trans rfl
                              have hcz57_4 : wc.cell? ⟨gb131, 4, none⟩ = some (.int .i64 ((rd_T41 (rd_KK l2 0) x15_1).f3.f1)) := (blk_cell BK131.out 4).trans rfl
                              have hfz57_0 := blk_frozen BK131.out 0
                              have hfz57_1 := blk_frozen BK131.out 1
                              have hfz57_2 := blk_frozen BK131.out 2
                              have hfz57_3 := blk_frozen BK131.out 3
                              have hfz57_4 := blk_frozen BK131.out 4
                              go_wp2
                              go_ret
                              exact ⟨by first | rfl | (simp [errW_none, errW_some] <;> rfl) | (simp [*, errW_none, errW_some] <;> rfl), by repeat (first | (with_reducible first | exact HB.out | apply below_alloc | apply pw_below_drewN | apply below_drew1 | refine below_set ?_ GE131.out | refine below_set ?_ GE144.out | refine below_set ?_ GE145.out) | exact HB.out)⟩
                          · rw [if_neg c50] at H
                            have c50b0 : ((rd_T41 (rd_KK l2 0) x15_1).f1) = false := by simpa using c50
                            clear c50
                            by_cases c58 : x10_14 = 0
                            · rw [if_pos c58] at H
                              have c58b0 : (x10_14 == 0) = true := beq_iff_eq.mpr c58
                              have c58b1 : (x10_14 != 0) = false := bne_eq_false_iff_eq.mpr c58
                              clear c58
                              have H' := Aside0.mk H
                              clear H
                              have hnb59 := NB131_144.out
                              have hnc59 := NB144_131.out
                              have hnb60 := NB131_145.out
                              have hnc60 := NB145_131.out
                              have hcz61_0 : wc.cell? ⟨gb131, 0, none⟩ = some (.bool ((rd_T41 (rd_KK l2 0) x15_1).f0)) := (blk_cell BK131.out 0).trans rfl
                              have hcz61_1 : wc.cell? ⟨gb131, 1, none⟩ = some (.bool ((rd_T41 (rd_KK l2 0) x15_1).f1)) := (blk_cell BK131.out 1).trans rfl
                              have hcz61_2 : wc.cell? ⟨gb131, 2, none⟩ = some (.string ((rd_T41 (rd_KK l2 0) x15_1).f2)) := (blk_cell BK131.out 2).trans rfl
                              have hcz61_3 : wc.cell? ⟨gb131, 3, none⟩ = some (.int .i64 ((rd_T41 (rd_KK l2 0) x15_1).f3.f0)) := (blk_cell BK131.out 3).trans rfl
                              have hcz61_4 : wc.cell? ⟨gb131, 4, none⟩ = some (.int .i64 ((rd_T41 (rd_KK l2 0) x15_1).f3.f1)) := (blk_cell BK131.out 4).trans rfl
                              have hfz61_0 := blk_frozen BK131.out 0
                              have hfz61_1 := blk_frozen BK131.out 1
                              have hfz61_2 := blk_frozen BK131.out 2
                              have hfz61_3 := blk_frozen BK131.out 3
                              have hfz61_4 := blk_frozen BK131.out 4
                              go_wp2
                              go_roundg kj14
                              case measure => have := HK1.out; have := HJ14.out; omega
                              case rel => exact ⟨(wrap64 (x15_1 + 1)), (by first | rfl | (simp; done) | (simp [*]; done)), H', ⟨by have := HK1.out; have := HJ14.out; omega⟩, ⟨by repeat (first | (with_reducible first | exact HB.out | apply below_alloc | apply pw_below_drewN | apply below_drew1 | refine below_set ?_ GE131.out | refine below_set ?_ GE144.out | refine below_set ?_ GE145.out) | exact HB.out)⟩⟩
                            · rw [if_neg c58] at H
                              have c58b0 : (x10_14 == 0) = false := beq_eq_false_iff_ne.mpr c58
                              have c58b1 : (x10_14 != 0) = true := bne_iff_ne.mpr c58
                              obtain rfl := Option.some.inj H
                              have hnb62 := NB131_144.out
                              have hnc62 := NB144_131.out
                              have hnb63 := NB131_145.out
                              have hnc63 := NB145_131.out
                              have hcz64_0 : wc.cell? ⟨gb131, 0, none⟩ = some (.bool ((rd_T41 (rd_KK l2 0) x15_1).f0)) := (blk_cell BK131.out 0).trans rfl
                              have hcz64_1 : wc.cell? ⟨gb131, 1, none⟩ = some (.bool ((rd_T41 (rd_KK l2 0) x15_1).f1)) := (blk_cell BK131.out 1).trans rfl
                              have hcz64_2 : wc.cell? ⟨gb131, 2, none⟩ = some (.string ((rd_T41 (rd_KK l2 0) x15_1).f2)) := (blk_cell BK131.out 2).trans rfl
                              have hcz64_3 : wc.cell? ⟨gb131, 3, none⟩ = some (.int .i64 ((rd_T41 (rd_KK l2 0) x15_1).f3.f0)) := (blk_cell BK131.out 3).trans rfl
                              have hcz64_4 : wc.cell? ⟨gb131, 4, none⟩ = some (.int .i64 ((rd_T41 (rd_KK l2 0) x15_1).f3.f1)) := (blk_cell BK131.out 4).trans rfl
                              have hfz64_0 := blk_frozen BK131.out 0
                              have hfz64_1 := blk_frozen BK131.out 1
                              have hfz64_2 := blk_frozen BK131.out 2
                              have hfz64_3 := blk_frozen BK131.out 3
                              have hfz64_4 := blk_frozen BK131.out 4
                              go_wp2
                              go_ret
                              exact ⟨by first | rfl | (simp [errW_none, errW_some] <;> rfl) | (simp [*, errW_none, errW_some] <;> rfl), by repeat (first | (with_reducible first | exact HB.out | apply below_alloc | apply pw_below_drewN | apply below_drew1 | refine below_set ?_ GE131.out | refine below_set ?_ GE144.out | refine below_set ?_ GE145.out) | exact HB.out)⟩
                    · rw [if_neg c12] at H
                      exact absurd H (by simp)
                  · rw [if_neg c11] at H
                    exact absurd H (by simp)
                · rw [if_neg c9] at H
                  exact absurd H (by simp)
              · rw [if_neg c8] at H
                exact absurd H (by simp)
            · rw [if_neg c7] at H
              exact absurd H (by simp)
          · rw [if_neg c6] at H
            exact absurd H (by simp)
        · rw [if_neg c5] at H
          have c5b0 : decide (x15_1 < ((rd_KK l2 0).length : Int)) = false := decide_eq_false c5
          clear c5
          obtain rfl := Option.some.inj H
          go_wp2
          go_ret
          exact ⟨by first | rfl | (simp [errW_none, errW_some] <;> rfl) | (simp [*, errW_none, errW_some] <;> rfl), by repeat (first | (with_reducible first | exact HB.out | apply below_alloc | apply pw_below_drewN | apply below_drew1) | exact HB.out)⟩
  · rw [if_neg c4] at H
    exact absurd H (by simp)


/-! ### xsort.Order -/
def iota (n : Nat) : List Int := (List.range n).map fun (i : Nat) => (i : Int)
theorem iota_succ (n : Nat) : iota (n + 1) = iota n ++ [(n : Int)] := by simp [iota, List.range_succ]
theorem iota_length (n : Nat) : (iota n).length = n := by simp [iota]
/-- the comparison of two places -/
def xsort_Order.cf (k : Nat) (l0 : List (List (S41))) (x y : Nat) : Int := (xsort_Order1.f k x y l0).getD 0
structure xsort_Order.ok (k : Nat) (l0 : List (List (S41))) : Prop where
  len : l0.length ≤ 1000000
  all : ∀ x, x < l0.length → ∀ y, y < l0.length → (xsort_Order1.f k x y l0).isSome = true
  refl : ∀ x, x < l0.length → xsort_Order.cf k l0 x x = 0
  turn : ∀ x, x < l0.length → ∀ y, y < l0.length → (xsort_Order.cf k l0 x y < 0 ↔ 0 < xsort_Order.cf k l0 y x)
  trans : ∀ x, x < l0.length → ∀ y, y < l0.length → ∀ z, z < l0.length → xsort_Order.cf k l0 x y ≤ 0 → xsort_Order.cf k l0 y z ≤ 0 → xsort_Order.cf k l0 x z ≤ 0
instance (k : Nat) (l0 : List (List (S41))) : Decidable (xsort_Order.ok k l0) :=
  decidable_of_iff (l0.length ≤ 1000000 ∧ (∀ x, x < l0.length → ∀ y, y < l0.length → (xsort_Order1.f k x y l0).isSome = true) ∧ (∀ x, x < l0.length → xsort_Order.cf k l0 x x = 0) ∧ (∀ x, x < l0.length → ∀ y, y < l0.length → (xsort_Order.cf k l0 x y < 0 ↔ 0 < xsort_Order.cf k l0 y x)) ∧ (∀ x, x < l0.length → ∀ y, y < l0.length → ∀ z, z < l0.length → xsort_Order.cf k l0 x y ≤ 0 → xsort_Order.cf k l0 y z ≤ 0 → xsort_Order.cf k l0 x z ≤ 0))
    ⟨fun h => ⟨h.1, h.2.1, h.2.2.1, h.2.2.2.1, h.2.2.2.2⟩, fun h => ⟨h.len, h.all, h.refl, h.turn, h.trans⟩⟩
/-- a place belongs ahead of another one: by the comparison, of alike ones the lesser place -/
def xsort_Order.ah (k : Nat) (l0 : List (List (S41))) (x y : Fin l0.length) : Bool := decide (xsort_Order.cf k l0 x y < 0 ∨ (xsort_Order.cf k l0 x y = 0 ∧ x.val < y.val))
def xsort_Order.list (k : Nat) (l0 : List (List (S41))) : List (Fin l0.length) := (List.finRange l0.length).mergeSort (fun x y => !xsort_Order.ah k l0 y x)
def xsort_Order.f (k : Nat) (l0 : List (List (S41))) : Option (List Int) := if xsort_Order.ok k l0 then some ((xsort_Order.list k l0).map fun x => (x.val : Int)) else none
theorem xsort_Order.up1 {k : Nat} {l0 : List (List (S41))} (h : xsort_Order.ok k l0) (x y : Nat) (hx : x < l0.length) (hy : y < l0.length) : xsort_Order1.f (k + 1) x y l0 = some (xsort_Order.cf k l0 x y) := by
  obtain ⟨v, hv⟩ := Option.isSome_iff_exists.1 (h.all x hx y hy)
  rw [xsort_Order.cf, hv]
  exact xsort_Order1.mono _ _ _ k v hv
theorem xsort_Order.upc {k : Nat} {l0 : List (List (S41))} (h : xsort_Order.ok k l0) (x y : Nat) (hx : x < l0.length) (hy : y < l0.length) : xsort_Order.cf (k + 1) l0 x y = xsort_Order.cf k l0 x y := by
  rw [xsort_Order.cf, xsort_Order.up1 h x y hx hy]; rfl
theorem xsort_Order.up {k : Nat} {l0 : List (List (S41))} (h : xsort_Order.ok k l0) : xsort_Order.ok (k + 1) l0 :=
  ⟨h.len, fun x hx y hy => by rw [xsort_Order.up1 h x y hx hy]; rfl, fun x hx => by rw [xsort_Order.upc h x x hx hx]; exact h.refl x hx,
    fun x hx y hy => by rw [xsort_Order.upc h x y hx hy, xsort_Order.upc h y x hy hx]; exact h.turn x hx y hy,
    fun x hx y hy z hz => by rw [xsort_Order.upc h x y hx hy, xsort_Order.upc h y z hy hz, xsort_Order.upc h x z hx hz]; exact h.trans x hx y hy z hz⟩
theorem xsort_Order.mono : ∀ a0 k, LeO (xsort_Order.f k a0) (xsort_Order.f (k + 1) a0) := by
  intro l0 k r h
  unfold xsort_Order.f at h ⊢
  split at h
  · rename_i hk
    rw [if_pos (xsort_Order.up hk), ← h]
    have e : xsort_Order.ah (k + 1) l0 = xsort_Order.ah k l0 := by
      funext x y
      unfold xsort_Order.ah
      rw [xsort_Order.upc hk x y x.isLt y.isLt]
    unfold xsort_Order.list
    rw [e]
  · cases h
theorem xsort_Order.swo {k : Nat} {l0 : List (List (S41))} (h : xsort_Order.ok k l0) : Go.Sort.SWO (xsort_Order.ah k l0) := by
  have zero : ∀ x y : Fin l0.length, xsort_Order.cf k l0 x y = 0 → xsort_Order.cf k l0 y x = 0 := fun x y e => by
    have h1 := h.turn x x.isLt y y.isLt
    have h2 := h.turn y y.isLt x x.isLt
    omega
  refine ⟨fun x => ?_, fun x y z h1 h2 => ?_, fun x y z h1 h2 => ?_⟩
  · have := h.refl x x.isLt
    simp only [xsort_Order.ah, decide_eq_false_iff_not]
    omega
  · simp only [xsort_Order.ah, decide_eq_true_eq] at h1 h2 ⊢
    have t1 := h.trans x x.isLt y y.isLt z z.isLt (by omega) (by omega)
    by_cases e : xsort_Order.cf k l0 x z < 0
    · exact .inl e
    · have ez : xsort_Order.cf k l0 x z = 0 := by omega
      have ezx := zero x z ez
      have a1 := h.trans y y.isLt z z.isLt x x.isLt (by omega) (by omega)
      have a2 := h.trans z z.isLt x x.isLt y y.isLt (by omega) (by omega)
      have b1 := h.turn x x.isLt y y.isLt
      have b2 := h.turn y y.isLt x x.isLt
      have b3 := h.turn y y.isLt z z.isLt
      have b4 := h.turn z z.isLt y y.isLt
      exact .inr ⟨ez, by omega⟩
  · simp only [xsort_Order.ah, decide_eq_false_iff_not] at h1 h2 ⊢
    have b1 := h.turn x x.isLt y y.isLt
    have b2 := h.turn y y.isLt x x.isLt
    have b3 := h.turn y y.isLt z z.isLt
    have b4 := h.turn z z.isLt y y.isLt
    have b5 := h.turn x x.isLt z z.isLt
    have b6 := h.turn z z.isLt x x.isLt
    have t1 := h.trans z z.isLt y y.isLt x x.isLt (by omega) (by omega)
    intro h3
    have t2 := h.trans x x.isLt z z.isLt y y.isLt (by omega)
    have t3 := h.trans y y.isLt x x.isLt z z.isLt (by omega)
    omega
theorem xsort_Order.anti {k : Nat} {l0 : List (List (S41))} (h : xsort_Order.ok k l0) (x y : Fin l0.length) (h1 : xsort_Order.ah k l0 x y = false) (h2 : xsort_Order.ah k l0 y x = false) : x = y := by
  simp only [xsort_Order.ah, decide_eq_false_iff_not] at h1 h2
  have b1 := h.turn x x.isLt y y.isLt
  have b2 := h.turn y y.isLt x x.isLt
  exact Fin.ext (by omega)
theorem xsort_Order.key {k : Nat} {l0 : List (List (S41))} (x y : Fin l0.length) (h : x.val < y.val) : ltOf (fun x y : Fin l0.length => xsort_Order.cf k l0 x y) y x = xsort_Order.ah k l0 y x := by
  unfold ltOf xsort_Order.ah
  congr 1
  simp only [eq_iff_iff]
  omega
open Go.Proofs.YthedigbdkjcpfaaDoor.Sta in
set_option maxHeartbeats 8000000 in
set_option maxRecDepth 100000 in
theorem xsort_Order.sorts (k : Nat) (A0 : Option Addr) (c0 : Nat) (l0 : List (List (S41))) (w w1 : World) (HC : Kd.C (Kd.slice 41 k41) w1 A0 l0.length l0) (hc0 : l0.length ≤ c0) (HL : Laid w1) (hk : xsort_Order.ok k l0) (hn : 0 < l0.length) (bc base : Nat) (hbc : bc < base)
    (hcap : w1.cell? ⟨bc, 0, none⟩ = some (.slice A0 l0.length c0)) (hlow : ∀ g, base ≤ g → ∀ W, Below g w1 W → Kd.C (Kd.slice 41 k41) W A0 l0.length l0 ∧ Laid W) (v : Value) (HO : Kd.R (Kd.int .i64) 3 w1 base (fun _ => True) v (iota l0.length)) :
    Calls Tryd.prog 25 #[v, .func (.func 26) #[] #[.pointer (some ⟨bc, 0, none⟩)]] w1 fun e w' => e = .returned (.tuple #[]) ∧
      Kd.R (Kd.int .i64) 3 w' base (fun _ => True) v ((xsort_Order.list k l0).map fun x => (x.val : Int)) ∧ Below base w1 w' := by
  obtain ⟨g, cap, cur, rfl, hg, hh, h1, h2, h3, h4⟩ := row_block HO (by rw [iota_length]; exact hn)
  rw [iota_length] at h1 h4 ⊢
  have : Inhabited (Fin l0.length) := ⟨⟨0, hn⟩⟩
  let d : Array (Fin l0.length) := (List.finRange l0.length).toArray
  have hd : d.size = l0.length := by simp [d]
  let val : Fin l0.length → Int := fun x => (x.val : Int)
  have hdl : d.toList.map val = iota l0.length := by
    apply List.ext_getElem?
    intro j
    simp only [d, val, iota, List.getElem?_map]
    by_cases hj : j < l0.length
    · rw [List.getElem?_eq_getElem (by simpa using hj), List.getElem?_eq_getElem (by simpa using hj)]
      simp
    · rw [List.getElem?_eq_none (by simpa using hj), List.getElem?_eq_none (by simpa using hj)]
      rfl
  have hc : cur.toList.take d.size = (d.toList.map val).map (Value.int .i64) := by rw [hd, hdl]; exact h4
  have R0 := row_one val hh hc
  have R1 : Row1 (ev val) (redrawn w1 0) g 0 d := ⟨R0.hO, fun j hj => R0.hH j hj, R0.hblk⟩
  have S1 : SW (ev val) (redrawn w1 0) g 0 d w1 := ⟨w1.drawn, #[], by
    have h5 : SW (ev val) w1 g 0 d w1 := SW.start R0.hH
    have h6 := Go.Proofs.sortWorld_start (ev val) w1 g 0 d R0.hH
    unfold sortWorld at h6 ⊢
    rw [Go.Sort.grow_empty] at h6 ⊢
    have h7 : Go.Sort.ahead (redrawn w1 0) w1.drawn = Go.Sort.ahead w1 0 := by simp [Go.Sort.ahead, redrawn]
    rw [h7]
    exact h6.symm⟩
  have hcmp : CmpB Tryd.prog 26 #[.pointer (some ⟨bc, 0, none⟩)] (ev val) (fun x y : Fin l0.length => xsort_Order.cf k l0 x y) g 0 l0.length (redrawn w1 0) := by
    intro W dk hW _ x y
    obtain ⟨hb, _, _⟩ := sw_end hW hh
    obtain ⟨q1, q2⟩ := hlow g hg W hb
    have q3 : W.cell? ⟨bc, 0, none⟩ = some (.slice A0 l0.length c0) := (hb.cell (show bc < g by omega)).trans hcap
    obtain ⟨r, hr⟩ := Option.isSome_iff_exists.1 (hk.all x x.isLt y y.isLt)
    have hr2 : xsort_Order.cf k l0 x y = r := by rw [xsort_Order.cf, hr]; rfl
    show Calls _ _ _ W fun e W' => e = .returned (.int .i64 (xsort_Order.cf k l0 x y)) ∧ Below W.heap.size W W'
    rw [hr2]
    exact xsort_Order1.calls k x y A0 c0 l0 r W q1 hc0 bc q3 q2 hr
  have hm := sort_stable_s val (fun x y : Fin l0.length => xsort_Order.cf k l0 x y) (xsort_Order.ah k l0) (xsort_Order.swo hk) (fun x => x.val) (fun x y h => xsort_Order.key x y h) 26 #[.pointer (some ⟨bc, 0, none⟩)] g 0 cap l0.length d d (redrawn w1 0) w1
    (fun args w => by first | rfl | kernel_rfl) rfl (fun _ => hcmp) R1 hd hd (fun j hj => by rw [getElem!_pos d j (by rw [hd]; exact hj)]; simp [d]) S1 (by have := hk.len; omega)
  refine Calls.mono hm ?_
  rintro e w' ⟨rfl, d', S2, P2, T2⟩
  obtain ⟨b1, b2, b3⟩ := sw_end S2 hh
  have hd' : d'.size = l0.length := P2.1.trans hd
  have hu := Go.Sort.sorted_unique_holds (xsort_Order.swo hk) (fun x y h1 h2 => xsort_Order.anti hk x y h1 h2) d d' (by rw [hd]; exact P2) (by rw [hd]; exact T2)
  have hb := row_back val (cap := cap) hg b2 (by rw [hd']; exact h1) h2 h3
  rw [hd', hu] at hb
  exact ⟨rfl, hb, b1.mono hg⟩
open Go.Proofs.YthedigbdkjcpfaaDoor.Sta in
set_option maxHeartbeats 8000000 in
set_option maxRecDepth 100000 in
theorem xsort_Order.calls (k : Nat) (A0 : Option Addr) (c0 : Nat) (l0 : List (List (S41))) (r : List Int) (w : World) (hr0 : Kd.C (Kd.slice 41 k41) w A0 l0.length l0) (hc0 : l0.length ≤ c0) (HLD : Laid w) (h : xsort_Order.f k l0 = some r) :
    Calls Tryd.prog 17 #[.slice A0 l0.length c0] w fun e w' => ∃ v0_ : Value, e = .returned (v0_) ∧ Kd.R (Kd.int .i64) 3 w' w.heap.size (fun _ => True) v0_ r ∧ Below w.heap.size w w' := by
  unfold xsort_Order.f at h
  split at h
  case isFalse => cases h
  rename_i hk
  obtain rfl := Option.some.inj h
  clear h
  have HR0 := Aside0.mk hr0
  have HC0 := Aside0.mk hc0
  have HK := Aside0.mk hk
  have hlen : l0.length ≤ 1000000 := hk.len
  clear hr0 hc0 hk
  go_enter Tryd.func17, Tryd.ntmps17
  go_wp2_with (first | ((with_reducible refine gate_dst (N := 1) rfl ?_); refine box_event ?hg (N := 1) ?hd (cs := #[.slice A0 l0.length c0]) (t := 25) ?hr ?_; (case hd => rfl); (case hg => rfl); (case hr => first | (go_simp; done) | (go_simp; rfl)); intro bc hg w1 hbox hb; have HB1 := Aside0.mk hb; have HX := Aside0.mk hbox; have hcap : w1.cell? ⟨bc, 0, none⟩ = some (.slice A0 l0.length c0) := (blk_cell hbox 0).trans rfl; clear hg hbox hb))
  have HBC : Aside0 (bc < w1.heap.size) := ⟨blk_lt HX.out⟩
  have HCAP := Aside0.mk hcap
  clear hcap
  go_loopg [3, 7] l0.length (fun kq v3 v7 w' => ∃ (j : Nat), v7 = .int .i64 j ∧ j ≤ l0.length ∧ l0.length - j ≤ kq ∧ Aside0 (Kd.R (Kd.int .i64) 3 w' w1.heap.size (fun _ => True) v3 (iota j)) ∧ Aside0 (j = 0 → v3 = .slice none 0 0) ∧ Aside0 (Below w1.heap.size w1 w'))
  case atStart => exact ⟨0, rfl, by omega, by omega, ⟨Kd.R_nil _ _ _ _ _⟩, ⟨fun _ => rfl⟩, ⟨Below.refl _ _⟩⟩
  case round =>
    obtain ⟨j, rfl, hj1, hj2, HO, HZ, HB⟩ := hrel
    by_cases c : j < l0.length
    · have cz : (j : Int) < (l0.length : Int) := by omega
      have LM := Aside0.mk (show (iota j).length < 17592186044416 by rw [iota_length]; omega)
      have rj := i64_in1 j (by omega)
      go_wp2_with (first | ((with_reducible refine gate_builtin (b := .append) (xs := #[.tmp 10, .tmp 12]) rfl ?_); at_builtin; refine Kd.R_append (Kd.int .i64) (w0 := w1) w1.heap.size rfl (.tmp 10) (.tmp 12) 30 3 (.int .i64 0) 8 rfl Tryd.underlying30 info3 rfl (by decide) (by omega) u3 (iota j) (j : Int) [.int .i64 (j : Int)] (fun _ => True) (fun _ => False) rfl rfl ?aP (fun _ hk => hk.elim) ?aF ?aO ?aB ?aS ?aL ?_; (case aP => exact rfl); (case aB => exact HB.out); (case aF => exact (fun _ _ => trivial)); (case aO => exact (by (with_reducible repeat (first | apply Kd.R_alloc | apply Kd.R_drewN | apply Kd.R_drew)); exact HO.out)); (case aS => exact HB.out.size); (case aL => have := LM.out; omega); intro v113 w4 ho hb hg hat; rw [← iota_succ] at ho; have n0_ := Aside0.mk (hb); have n1_ := Aside0.mk (ho); clear HB; clear HO; have HB := n0_; have HO := n1_; clear n0_ n1_; clear ho hb hg hat))
      clear rj
      go_roundg (l0.length - (j + 1))
      case measure => omega
      case rel => exact ⟨j + 1, by first | rfl | go_num | (congr 1; omega), by omega, by omega, ⟨by (with_reducible repeat (first | apply Kd.R_alloc | apply Kd.R_drewN | apply Kd.R_drew)); exact HO.out⟩, ⟨fun h => absurd h (by omega)⟩, ⟨HB.out⟩⟩
    · have cz : ¬ (j : Int) < (l0.length : Int) := by omega
      have e : j = l0.length := by omega
      subst e
      by_cases hn : 0 < l0.length
      · have hlow : ∀ g, w1.heap.size ≤ g → ∀ W, Below g wr W → Below w.heap.size w W := fun g hg W hb =>
          (HB1.out.trans (HB.out.mono HB1.out.size)).trans (hb.mono (Nat.le_trans HB1.out.size hg))
        have hb0 : Below w.heap.size w wr := HB1.out.trans (HB.out.mono HB1.out.size)
        have HS := Aside0.mk (xsort_Order.sorts k A0 c0 l0 w wr (Kd.C_below HR0.out hb0) HC0.out (Laid.below HLD hb0) HK.out hn bc w1.heap.size HBC.out ((HB.out.cell HBC.out).trans HCAP.out)
          (fun g hg W hb => ⟨Kd.C_below HR0.out (hlow g hg W hb), Laid.below HLD (hlow g hg W hb)⟩) u3 HO.out)
        clear hlow hb0
        go_wp2_with (go_at_call 25; refine Calls.mono HS.out ?_; rintro e w2 ⟨rfl, HR2, hb2⟩)
        go_ret
        exact ⟨_, rfl, Kd.R_lower HR2 HB1.out.size, (HB1.out.trans (HB.out.mono HB1.out.size)).trans (hb2.mono HB1.out.size)⟩
      · have h0 : l0.length = 0 := by omega
        have hz := HZ.out h0
        subst hz
        go_wp2_with (go_at_call 25; refine Calls.mono (sort_nil _ _) ?_; rintro e w2 ⟨rfl, rfl⟩)
        go_ret
        have hl : (xsort_Order.list k l0).map (fun x => (x.val : Int)) = [] := by
          have : (xsort_Order.list k l0).length = 0 := by rw [xsort_Order.list, List.length_mergeSort, List.length_finRange]; exact h0
          rw [List.eq_nil_of_length_eq_zero this]; rfl
        exact ⟨_, rfl, by rw [hl]; exact Kd.R_nil _ _ _ _ _, HB1.out.trans (HB.out.mono HB1.out.size)⟩

end Go.Proofs.YthedigbdkjcpfaaDoor.Print

-- APART
