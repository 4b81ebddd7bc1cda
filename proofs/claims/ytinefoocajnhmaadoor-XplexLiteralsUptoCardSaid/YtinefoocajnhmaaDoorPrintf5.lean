-- Laid by xprint.py (ours), out of the seat's translation; Lean checks it.
import Derived.Test.YtinefoocajnhmaaDoorPrint0
import Derived.Test.YtinefoocajnhmaaDoorPrintlibindex
import Derived.Test.YtinefoocajnhmaaDoorPrintxplexscan
import Derived.Test.YtinefoocajnhmaaDoorPrintf19
namespace Go.Proofs.YtinefoocajnhmaaDoor.Print
open Go.RowKit Go.Proofs.YtinefoocajnhmaaDoorW.PrintWords Go.Proofs.YtinefoocajnhmaaDoorW.PrintLast Go.Proofs.YtinefoocajnhmaaDoorW.PrintMore
attribute [local go_sem] max2_int min2_int max_two min_two max_three min_three max_four min_four   -- for this text's walks alone
open Go.Proofs.YtinefoocajnhmaaDoor.Plain
set_option linter.unusedVariables false
set_option linter.unusedSimpArgs false

/-! ### stencillaw05_XplexPlaces: function 5 -/
mutual
def stencillaw05_XplexPlaces.l0 : Nat → ByteArray → List (S30) → Int → Option (Bool)
  | 0, _, _, _ => none
  | k + 1, x0, x3, x6 => if x6 < (x3.length : Int) then (if 0 ≤ x6 then (if ((rd_T30 x3 x6).f0) = 2 then (stencillaw05_XplexPlaces.j1 k x0 x3 x6 ((rd_T30 x3 x6).f2) ((rd_T30 x3 x6).f1) true) else (stencillaw05_XplexPlaces.j1 k x0 x3 x6 ((rd_T30 x3 x6).f2) ((rd_T30 x3 x6).f1) (((rd_T30 x3 x6).f0) == 7))) else (none)) else ((stencillaw05_live.f).bind fun t185 => (some t185))
def stencillaw05_XplexPlaces.j1 : Nat → ByteArray → List (S30) → Int → Int → ByteArray → Bool → Option (Bool)
  | 0, _, _, _, _, _, _ => none
  | k + 1, x0, x3, x6, x7, x8, x47 => if x47 = true then (if x6 > 0 then (if 0 ≤ x6 then (if x6 < (x3.length : Int) then (if 0 ≤ (wrap64 (x6 - 1)) then (if (wrap64 (x6 - 1)) < (x3.length : Int) then (if ((rd_T30 x3 x6).f2) ≤ ((rd_T30 x3 (wrap64 (x6 - 1))).f2) then (some false) else (if (wrap64 (x7 + 1)) < 0 then (some false) else (if (wrap64 ((wrap64 (x7 + 1)) + (x8.size : Int))) > (x0.size : Int) then (some false) else (if 0 ≤ (wrap64 (x7 + 1)) then (if (wrap64 (x7 + 1)) ≤ (wrap64 ((wrap64 (x7 + 1)) + (x8.size : Int))) then (if (wrap64 ((wrap64 (x7 + 1)) + (x8.size : Int))) ≤ (x0.size : Int) then (if (x0.extract ((wrap64 (x7 + 1)) : Int).toNat ((wrap64 ((wrap64 (x7 + 1)) + (x8.size : Int))) : Int).toNat).toList = x8.toList then (stencillaw05_XplexPlaces.l0 k x0 x3 (wrap64 (x6 + 1))) else (some false)) else (none)) else (none)) else (none))))) else (none)) else (none)) else (none)) else (none)) else (if (wrap64 (x7 + 1)) < 0 then (some false) else (if (wrap64 ((wrap64 (x7 + 1)) + (x8.size : Int))) > (x0.size : Int) then (some false) else (if 0 ≤ (wrap64 (x7 + 1)) then (if (wrap64 (x7 + 1)) ≤ (wrap64 ((wrap64 (x7 + 1)) + (x8.size : Int))) then (if (wrap64 ((wrap64 (x7 + 1)) + (x8.size : Int))) ≤ (x0.size : Int) then (if (x0.extract ((wrap64 (x7 + 1)) : Int).toNat ((wrap64 ((wrap64 (x7 + 1)) + (x8.size : Int))) : Int).toNat).toList = x8.toList then (stencillaw05_XplexPlaces.l0 k x0 x3 (wrap64 (x6 + 1))) else (some false)) else (none)) else (none)) else (none))))) else (if x6 > 0 then (if 0 ≤ x6 then (if x6 < (x3.length : Int) then (if 0 ≤ (wrap64 (x6 - 1)) then (if (wrap64 (x6 - 1)) < (x3.length : Int) then (if ((rd_T30 x3 x6).f2) ≤ ((rd_T30 x3 (wrap64 (x6 - 1))).f2) then (some false) else (if x7 < 0 then (some false) else (if (wrap64 (x7 + (x8.size : Int))) > (x0.size : Int) then (some false) else (if 0 ≤ x7 then (if x7 ≤ (wrap64 (x7 + (x8.size : Int))) then (if (wrap64 (x7 + (x8.size : Int))) ≤ (x0.size : Int) then (if (x0.extract (x7 : Int).toNat ((wrap64 (x7 + (x8.size : Int))) : Int).toNat).toList = x8.toList then (stencillaw05_XplexPlaces.l0 k x0 x3 (wrap64 (x6 + 1))) else (some false)) else (none)) else (none)) else (none))))) else (none)) else (none)) else (none)) else (none)) else (if x7 < 0 then (some false) else (if (wrap64 (x7 + (x8.size : Int))) > (x0.size : Int) then (some false) else (if 0 ≤ x7 then (if x7 ≤ (wrap64 (x7 + (x8.size : Int))) then (if (wrap64 (x7 + (x8.size : Int))) ≤ (x0.size : Int) then (if (x0.extract (x7 : Int).toNat ((wrap64 (x7 + (x8.size : Int))) : Int).toNat).toList = x8.toList then (stencillaw05_XplexPlaces.l0 k x0 x3 (wrap64 (x6 + 1))) else (some false)) else (none)) else (none)) else (none)))))
end
def stencillaw05_XplexPlaces.f (k : Nat) (a0 : ByteArray) : Option (Bool) := (xplex_Scan.f a0).bind fun bt179 => (if bt179.2.1 = 0 then (stencillaw05_XplexPlaces.l0 k a0 bt179.1 0) else ((stencillaw05_live.f).bind fun t184 => (some t184)))
theorem stencillaw05_XplexPlaces.mono_l : ∀ k, (∀ y0 y1 y2, LeO (stencillaw05_XplexPlaces.l0 k y0 y1 y2) (stencillaw05_XplexPlaces.l0 (k + 1) y0 y1 y2)) ∧ (∀ y0 y1 y2 y3 y4 y5, LeO (stencillaw05_XplexPlaces.j1 k y0 y1 y2 y3 y4 y5) (stencillaw05_XplexPlaces.j1 (k + 1) y0 y1 y2 y3 y4 y5))
  | 0 => ⟨fun _ _ _ r h => by simp [stencillaw05_XplexPlaces.l0] at h, fun _ _ _ _ _ _ r h => by simp [stencillaw05_XplexPlaces.j1] at h⟩
  | k + 1 => by
    obtain ⟨ih0, ih1⟩ := stencillaw05_XplexPlaces.mono_l k
    refine ⟨?_, ?_⟩
    · intro y0 y1 y2
      unfold stencillaw05_XplexPlaces.l0
      repeat' first
      | (with_reducible exact ih0 _ _ _)
      | (with_reducible exact ih1 _ _ _ _ _ _)
      | (with_reducible exact LeO.refl _)
      | (with_reducible exact LeO.none _)
      | (with_reducible refine LeO.ite ?_ ?_)
      | (with_reducible refine LeO.bind ?_ (fun _ => ?_))
      | exact ih0 _ _ _
      | exact ih1 _ _ _ _ _ _
      | exact LeO.none _
      | refine LeO.ite ?_ ?_
      | refine LeO.bind ?_ (fun _ => ?_)
    · intro y0 y1 y2 y3 y4 y5
      unfold stencillaw05_XplexPlaces.j1
      repeat' first
      | (with_reducible exact ih0 _ _ _)
      | (with_reducible exact ih1 _ _ _ _ _ _)
      | (with_reducible exact LeO.refl _)
      | (with_reducible exact LeO.none _)
      | (with_reducible refine LeO.ite ?_ ?_)
      | (with_reducible refine LeO.bind ?_ (fun _ => ?_))
      | exact ih0 _ _ _
      | exact ih1 _ _ _ _ _ _
      | exact LeO.none _
      | refine LeO.ite ?_ ?_
      | refine LeO.bind ?_ (fun _ => ?_)
theorem stencillaw05_XplexPlaces.mono : ∀ a0 k, LeO (stencillaw05_XplexPlaces.f k a0) (stencillaw05_XplexPlaces.f (k + 1) a0) := by
  intro a0 k
  obtain ⟨ih0, ih1⟩ := stencillaw05_XplexPlaces.mono_l k
  unfold stencillaw05_XplexPlaces.f
  repeat' first
      | (with_reducible exact ih0 _ _ _)
      | (with_reducible exact ih1 _ _ _ _ _ _)
      | (with_reducible exact LeO.refl _)
      | (with_reducible exact LeO.none _)
      | (with_reducible refine LeO.ite ?_ ?_)
      | (with_reducible refine LeO.bind ?_ (fun _ => ?_))
      | exact ih0 _ _ _
      | exact ih1 _ _ _ _ _ _
      | exact LeO.none _
      | refine LeO.ite ?_ ?_
      | refine LeO.bind ?_ (fun _ => ?_)
set_option maxHeartbeats 8000000 in
set_option maxRecDepth 100000 in
theorem stencillaw05_XplexPlaces.calls (k : Nat) (a0 : ByteArray) (r : Bool) (w : World) (HLD : Laid w) (h : stencillaw05_XplexPlaces.f k a0 = some r) :
    Calls Tryd.prog 5 #[.string a0] w fun e w' => e = .returned (.bool r) ∧ Below w.heap.size w w' := by
  have HB := Aside0.mk (Below.refl w.heap.size w)
  have H : ((xplex_Scan.f a0).bind fun bt179 => (if bt179.2.1 = 0 then (stencillaw05_XplexPlaces.l0 k a0 bt179.1 0) else ((stencillaw05_live.f).bind fun t184 => (some t184)))) = some r := h
  clear h
  replace H := Option.bind_eq_some_iff.mp H
  obtain ⟨⟨t179, t180, t181⟩, A20, H⟩ := H
  replace H : (if t180 = 0 then (stencillaw05_XplexPlaces.l0 k a0 t179 0) else ((stencillaw05_live.f).bind fun t184 => (some t184))) = some r := H
  have A2 := Aside0.mk A20
  clear A20
  by_cases c3 : t180 = 0
  · rw [if_pos c3] at H
    have c3b0 : (t180 == 0) = true := beq_iff_eq.mpr c3
    have c3b1 : (t180 != 0) = false := bne_eq_false_iff_eq.mpr c3
    clear c3
    have H' := Aside0.mk H
    clear H
    go_enter Tryd.func5, Tryd.ntmps5
    go_wp2_with (first | (go_at_call 18; (with_reducible refine (xplex_Scan.calls a0 t179 t180 t181 _ ?side1 A2.out).mono ?_); (case side1 => first | exact HLD | exact Laid.below HLD (by repeat (first | (with_reducible first | exact HB.out | apply below_alloc | apply pw_below_drewN | apply below_drew1) | exact HB.out))); rintro e w4 ⟨v182, rfl, ho0, hb⟩; have n0_ := Aside0.mk (Kd.R_lower ho0 (below_size (by repeat (first | (with_reducible first | exact HB.out | apply below_alloc | apply pw_below_drewN | apply below_drew1) | exact HB.out)))); have n1_ := Aside0.mk (below_step (by repeat (first | (with_reducible first | exact HB.out | apply below_alloc | apply pw_below_drewN | apply below_drew1) | exact HB.out)) hb); clear HB; have HO183 := n0_; have HB := n1_; clear n0_ n1_; (try clear hb); (try clear hb2); (try clear hk); (try clear hi); (try clear ho0)))
    repeat (go_quiet (first | (go_at_call 18; (with_reducible refine (xplex_Scan.calls a0 t179 t180 t181 _ ?side1 A2.out).mono ?_); (case side1 => first | exact HLD | exact Laid.below HLD (by repeat (first | (with_reducible first | exact HB.out | apply below_alloc | apply pw_below_drewN | apply below_drew1) | exact HB.out))); rintro e w4 ⟨v182, rfl, ho0, hb⟩; have n0_ := Aside0.mk (Kd.R_lower ho0 (below_size (by repeat (first | (with_reducible first | exact HB.out | apply below_alloc | apply pw_below_drewN | apply below_drew1) | exact HB.out)))); have n1_ := Aside0.mk (below_step (by repeat (first | (with_reducible first | exact HB.out | apply below_alloc | apply pw_below_drewN | apply below_drew1) | exact HB.out)) hb); clear HB; have HO183 := n0_; have HB := n1_; clear n0_ n1_; (try clear hb); (try clear hb2); (try clear hk); (try clear hi); (try clear ho0))); try go_wp2_with (first | (go_at_call 18; (with_reducible refine (xplex_Scan.calls a0 t179 t180 t181 _ ?side1 A2.out).mono ?_); (case side1 => first | exact HLD | exact Laid.below HLD (by repeat (first | (with_reducible first | exact HB.out | apply below_alloc | apply pw_below_drewN | apply below_drew1) | exact HB.out))); rintro e w4 ⟨v182, rfl, ho0, hb⟩; have n0_ := Aside0.mk (Kd.R_lower ho0 (below_size (by repeat (first | (with_reducible first | exact HB.out | apply below_alloc | apply pw_below_drewN | apply below_drew1) | exact HB.out)))); have n1_ := Aside0.mk (below_step (by repeat (first | (with_reducible first | exact HB.out | apply below_alloc | apply pw_below_drewN | apply below_drew1) | exact HB.out)) hb); clear HB; have HO183 := n0_; have HB := n1_; clear n0_ n1_; (try clear hb); (try clear hb2); (try clear hk); (try clear hi); (try clear ho0))))
    go_loopg [6] k (fun kq v6 w' => ∃ (x6_1 : Int), v6 = .int .i64 x6_1 ∧ Aside0 (stencillaw05_XplexPlaces.l0 kq a0 t179 x6_1 = some r) ∧ Aside0 (kq ≤ k) ∧ Aside0 (Kd.R k30 30 w' w.heap.size (fun _ => True) v182 t179) ∧ Aside0 (Below w.heap.size w w'))
    case atStart => exact ⟨(0), (by first | rfl | (simp; done) | (simp [*]; done)), H', ⟨Nat.le_refl _⟩, ⟨by (with_reducible repeat (first | apply Kd.R_alloc | apply Kd.R_drewN | apply Kd.R_drew)); exact HO183.out⟩, ⟨by repeat (first | (with_reducible first | exact HB.out | apply below_alloc | apply pw_below_drewN | apply below_drew1) | exact HB.out)⟩⟩
    case round =>
      clear H'
      try clear p2
      try clear c3
      try clear c3b0
      try clear c3b1
      obtain ⟨x6_1, rfl, HA, HK1, HO_3, HB⟩ := hrel
      cases gk with
      | zero => exact absurd HA.out (by simp [stencillaw05_XplexPlaces.l0])
      | succ k1 =>
        have H := HA.out
        clear HA
        simp only [stencillaw05_XplexPlaces.l0] at H
        by_cases c5 : x6_1 < (t179.length : Int)
        · rw [if_pos c5] at H
          have c5b0 : decide (x6_1 < (t179.length : Int)) = true := decide_eq_true c5
          clear c5
          by_cases c6 : 0 ≤ x6_1
          · rw [if_pos c6] at H
            have c6b0 : decide (0 ≤ x6_1) = true := decide_eq_true c6
            clear c6
            have HC7 := Aside0.mk H
            clear H
            obtain ⟨Ao8, co8, eo8⟩ := Kd.R_slice HO_3.out
            subst eo8
            have p186 : 0 ≤ (x6_1 : Int) := of_decide_eq_true (by first | (with_reducible assumption) | assumption)
            have q186 : x6_1 < (t179.length : Int) := of_decide_eq_true (by first | (with_reducible assumption) | assumption)
            obtain ⟨ad186, e186, hx186_0, hx186_1, hx186_2⟩ := at_T30 (Kd.R_reads' HO_3.out).2.2 x6_1 p186 q186
            cases e186
            replace p186 := eq_true p186
            replace q186 := eq_true q186
            have p187 : 0 ≤ (x6_1 : Int) := of_decide_eq_true (by first | (with_reducible assumption) | assumption)
            have q187 : x6_1 < (t179.length : Int) := of_decide_eq_true (by first | (with_reducible assumption) | assumption)
            obtain ⟨ad187, e187, hx187_0, hx187_1, hx187_2⟩ := at_T30 (Kd.R_reads' HO_3.out).2.2 x6_1 p187 q187
            obtain rfl : ad186 = ad187 := (by injection e187)
            replace p187 := eq_true p187
            replace q187 := eq_true q187
            go_upto_region 8 with (fail)
            repeat (go_quiet (fail); go_upto_region 8 with (fail))
            go_cut [47] (fun v47 wc => ∃ (kq : Nat) (x47_6 : Bool), v47 = .bool x47_6 ∧ Aside0 (stencillaw05_XplexPlaces.j1 kq a0 t179 x6_1 ((rd_T30 t179 x6_1).f2) ((rd_T30 t179 x6_1).f1) x47_6 = some r) ∧ Aside0 (kq ≤ k1) ∧ Aside0 (Kd.R k30 30 wc w.heap.size (fun _ => True) (.slice (some ad186) t179.length co8) t179) ∧ Aside0 (Below w.heap.size w wc))
            case first =>
              have H := HC7.out
              clear HC7
              by_cases c9 : ((rd_T30 t179 x6_1).f0) = 2
              · rw [if_pos c9] at H
                have c9b0 : (((rd_T30 t179 x6_1).f0) == 2) = true := beq_iff_eq.mpr c9
                have c9b1 : (((rd_T30 t179 x6_1).f0) != 2) = false := bne_eq_false_iff_eq.mpr c9
                clear c9
                (first | rw [c9b0] | (simp only [i64_w, i32_w]; rw [c9b0]) | skip)
                have H' := Aside0.mk H
                clear H
                have p188 : 0 ≤ (x6_1 : Int) := of_decide_eq_true (by first | (with_reducible assumption) | assumption)
                have q188 : x6_1 < (t179.length : Int) := of_decide_eq_true (by first | (with_reducible assumption) | assumption)
                obtain ⟨ad188, e188, hx188_0, hx188_1, hx188_2⟩ := at_T30 (Kd.R_reads' HO_3.out).2.2 x6_1 p188 q188
                obtain rfl : ad186 = ad188 := (by injection e188)
                replace p188 := eq_true p188
                replace q188 := eq_true q188
                go_wp2
                repeat (go_quiet (fail); try go_wp2)
                go_meet
                case rel => exact ⟨_, (true), (by first | rfl | (simp; done) | (simp [*]; done)), H', ⟨by have := HK1.out; first | omega | exact Nat.le_refl _⟩, ⟨by (with_reducible repeat (first | apply Kd.R_alloc | apply Kd.R_drewN | apply Kd.R_drew)); exact HO_3.out⟩, ⟨by repeat (first | (with_reducible first | exact HB.out | apply below_alloc | apply pw_below_drewN | apply below_drew1) | exact HB.out)⟩⟩
              · rw [if_neg c9] at H
                have c9b0 : (((rd_T30 t179 x6_1).f0) == 2) = false := beq_eq_false_iff_ne.mpr c9
                have c9b1 : (((rd_T30 t179 x6_1).f0) != 2) = true := bne_iff_ne.mpr c9
                (first | rw [c9b0] | (simp only [i64_w, i32_w]; rw [c9b0]) | skip)
                have H' := Aside0.mk H
                clear H
                have p188 : 0 ≤ (x6_1 : Int) := of_decide_eq_true (by first | (with_reducible assumption) | assumption)
                have q188 : x6_1 < (t179.length : Int) := of_decide_eq_true (by first | (with_reducible assumption) | assumption)
                obtain ⟨ad188, e188, hx188_0, hx188_1, hx188_2⟩ := at_T30 (Kd.R_reads' HO_3.out).2.2 x6_1 p188 q188
                obtain rfl : ad186 = ad188 := (by injection e188)
                replace p188 := eq_true p188
                replace q188 := eq_true q188
                have p189 : 0 ≤ (x6_1 : Int) := of_decide_eq_true (by first | (with_reducible assumption) | assumption)
                have q189 : x6_1 < (t179.length : Int) := of_decide_eq_true (by first | (with_reducible assumption) | assumption)
                obtain ⟨ad189, e189, hx189_0, hx189_1, hx189_2⟩ := at_T30 (Kd.R_reads' HO_3.out).2.2 x6_1 p189 q189
                obtain rfl : ad186 = ad189 := (by injection e189)
                replace p189 := eq_true p189
                replace q189 := eq_true q189
                go_wp2
                repeat (go_quiet (fail); try go_wp2)
                go_meet
                case rel => exact ⟨_, ((((rd_T30 t179 x6_1).f0) == 7)), (by first | rfl | (simp; done) | (simp [*]; done)), H', ⟨by have := HK1.out; first | omega | exact Nat.le_refl _⟩, ⟨by (with_reducible repeat (first | apply Kd.R_alloc | apply Kd.R_drewN | apply Kd.R_drew)); exact HO_3.out⟩, ⟨by repeat (first | (with_reducible first | exact HB.out | apply below_alloc | apply pw_below_drewN | apply below_drew1) | exact HB.out)⟩⟩
            case rest =>
              clear HC7
              try clear p1
              try clear q1
              try clear hx1
              try clear p2
              try clear c3
              try clear c3b0
              try clear c3b1
              try clear c5
              try clear c5b0
              try clear c6
              try clear c6b0
              try clear c9
              try clear c9b0
              try clear c9b1
              try clear hx186_0
              try clear hx186_1
              try clear hx186_2
              try clear hx187_0
              try clear hx187_1
              try clear hx187_2
              try clear hx188_0
              try clear hx188_1
              try clear hx188_2
              try clear hx189_0
              try clear hx189_1
              try clear hx189_2
              try clear p186
              try clear p187
              try clear p188
              try clear p189
              try clear p2
              try clear q186
              try clear q187
              try clear q188
              try clear q189
              obtain ⟨kq, x47_6, rfl, HA, HJ6, HO_3, HB⟩ := hcut
              cases kq with
              | zero => exact absurd HA.out (by simp [stencillaw05_XplexPlaces.j1])
              | succ kj6 =>
                have H := HA.out
                clear HA
                simp only [stencillaw05_XplexPlaces.j1] at H
                by_cases c10 : x47_6 = true
                · subst c10
                  have H1 : (if x6_1 > 0 then (if 0 ≤ x6_1 then (if x6_1 < (t179.length : Int) then (if 0 ≤ (wrap64 (x6_1 - 1)) then (if (wrap64 (x6_1 - 1)) < (t179.length : Int) then (if ((rd_T30 t179 x6_1).f2) ≤ ((rd_T30 t179 (wrap64 (x6_1 - 1))).f2) then (some false) else (if (wrap64 (((rd_T30 t179 x6_1).f2) + 1)) < 0 then (some false) else (if (wrap64 ((wrap64 (((rd_T30 t179 x6_1).f2) + 1)) + (((rd_T30 t179 x6_1).f1).size : Int))) > (a0.size : Int) then (some false) else (if 0 ≤ (wrap64 (((rd_T30 t179 x6_1).f2) + 1)) then (if (wrap64 (((rd_T30 t179 x6_1).f2) + 1)) ≤ (wrap64 ((wrap64 (((rd_T30 t179 x6_1).f2) + 1)) + (((rd_T30 t179 x6_1).f1).size : Int))) then (if (wrap64 ((wrap64 (((rd_T30 t179 x6_1).f2) + 1)) + (((rd_T30 t179 x6_1).f1).size : Int))) ≤ (a0.size : Int) then (if (a0.extract ((wrap64 (((rd_T30 t179 x6_1).f2) + 1)) : Int).toNat ((wrap64 ((wrap64 (((rd_T30 t179 x6_1).f2) + 1)) + (((rd_T30 t179 x6_1).f1).size : Int))) : Int).toNat).toList = ((rd_T30 t179 x6_1).f1).toList then (stencillaw05_XplexPlaces.l0 kj6 a0 t179 (wrap64 (x6_1 + 1))) else (some false)) else (none)) else (none)) else (none))))) else (none)) else (none)) else (none)) else (none)) else (if (wrap64 (((rd_T30 t179 x6_1).f2) + 1)) < 0 then (some false) else (if (wrap64 ((wrap64 (((rd_T30 t179 x6_1).f2) + 1)) + (((rd_T30 t179 x6_1).f1).size : Int))) > (a0.size : Int) then (some false) else (if 0 ≤ (wrap64 (((rd_T30 t179 x6_1).f2) + 1)) then (if (wrap64 (((rd_T30 t179 x6_1).f2) + 1)) ≤ (wrap64 ((wrap64 (((rd_T30 t179 x6_1).f2) + 1)) + (((rd_T30 t179 x6_1).f1).size : Int))) then (if (wrap64 ((wrap64 (((rd_T30 t179 x6_1).f2) + 1)) + (((rd_T30 t179 x6_1).f1).size : Int))) ≤ (a0.size : Int) then (if (a0.extract ((wrap64 (((rd_T30 t179 x6_1).f2) + 1)) : Int).toNat ((wrap64 ((wrap64 (((rd_T30 t179 x6_1).f2) + 1)) + (((rd_T30 t179 x6_1).f1).size : Int))) : Int).toNat).toList = ((rd_T30 t179 x6_1).f1).toList then (stencillaw05_XplexPlaces.l0 kj6 a0 t179 (wrap64 (x6_1 + 1))) else (some false)) else (none)) else (none)) else (none))))) = some r := by rw [if_pos rfl] at H; exact H
                  clear H
                  have H := H1
                  clear H1
                  by_cases c11 : x6_1 > 0
                  · rw [if_pos c11] at H
                    have c11b0 : decide (0 < x6_1) = true := decide_eq_true c11
                    clear c11
                    by_cases c12 : 0 ≤ x6_1
                    · rw [if_pos c12] at H
                      have c12b0 : decide (0 ≤ x6_1) = true := decide_eq_true c12
                      clear c12
                      by_cases c13 : x6_1 < (t179.length : Int)
                      · rw [if_pos c13] at H
                        have c13b0 : decide (x6_1 < (t179.length : Int)) = true := decide_eq_true c13
                        clear c13
                        obtain ⟨ji14, hji14⟩ : ∃ j_ : Int, (wrap64 (x6_1 - 1)) = j_ := ⟨_, rfl⟩
                        replace H : (if 0 ≤ (ji14) then (if (ji14) < (t179.length : Int) then (if ((rd_T30 t179 x6_1).f2) ≤ ((rd_T30 t179 (ji14)).f2) then (some false) else (if (wrap64 (((rd_T30 t179 x6_1).f2) + 1)) < 0 then (some false) else (if (wrap64 ((wrap64 (((rd_T30 t179 x6_1).f2) + 1)) + (((rd_T30 t179 x6_1).f1).size : Int))) > (a0.size : Int) then (some false) else (if 0 ≤ (wrap64 (((rd_T30 t179 x6_1).f2) + 1)) then (if (wrap64 (((rd_T30 t179 x6_1).f2) + 1)) ≤ (wrap64 ((wrap64 (((rd_T30 t179 x6_1).f2) + 1)) + (((rd_T30 t179 x6_1).f1).size : Int))) then (if (wrap64 ((wrap64 (((rd_T30 t179 x6_1).f2) + 1)) + (((rd_T30 t179 x6_1).f1).size : Int))) ≤ (a0.size : Int) then (if (a0.extract ((wrap64 (((rd_T30 t179 x6_1).f2) + 1)) : Int).toNat ((wrap64 ((wrap64 (((rd_T30 t179 x6_1).f2) + 1)) + (((rd_T30 t179 x6_1).f1).size : Int))) : Int).toNat).toList = ((rd_T30 t179 x6_1).f1).toList then (stencillaw05_XplexPlaces.l0 kj6 a0 t179 (wrap64 (x6_1 + 1))) else (some false)) else (none)) else (none)) else (none))))) else (none)) else (none)) = some r := by first | (rw [hji14] at H; exact H) | (simp only [hji14] at H ⊢; exact H)
                        have hji14w : (IntKind.i64.wrap (x6_1 - 1)) = ji14 := (i64_w _).trans hji14
                        by_cases c15 : 0 ≤ (ji14)
                        · rw [if_pos c15] at H
                          have c15b0 : decide (0 ≤ (ji14)) = true := decide_eq_true c15
                          clear c15
                          by_cases c16 : (ji14) < (t179.length : Int)
                          · rw [if_pos c16] at H
                            have c16b0 : decide ((ji14) < (t179.length : Int)) = true := decide_eq_true c16
                            clear c16
                            by_cases c17 : ((rd_T30 t179 x6_1).f2) ≤ ((rd_T30 t179 (ji14)).f2)
                            · rw [if_pos c17] at H
                              have c17b0 : decide (((rd_T30 t179 x6_1).f2) ≤ ((rd_T30 t179 (ji14)).f2)) = true := decide_eq_true c17
                              clear c17
                              obtain rfl := Option.some.inj H
                              have p190 : 0 ≤ (x6_1 : Int) := of_decide_eq_true (by first | (with_reducible assumption) | assumption)
                              have q190 : x6_1 < (t179.length : Int) := of_decide_eq_true (by first | (with_reducible assumption) | assumption)
                              obtain ⟨ad190, e190, hx190_0, hx190_1, hx190_2⟩ := at_T30 (Kd.R_reads' HO_3.out).2.2 x6_1 p190 q190
                              obtain rfl : ad186 = ad190 := (by injection e190)
                              replace p190 := eq_true p190
                              replace q190 := eq_true q190
                              have p191 : 0 ≤ ((ji14) : Int) := of_decide_eq_true (by first | (with_reducible assumption) | assumption)
                              have q191 : (ji14) < (t179.length : Int) := of_decide_eq_true (by first | (with_reducible assumption) | assumption)
                              obtain ⟨ad191, e191, hx191_0, hx191_1, hx191_2⟩ := at_T30 (Kd.R_reads' HO_3.out).2.2 (ji14) p191 q191
                              obtain rfl : ad186 = ad191 := (by injection e191)
                              replace p191 := eq_true p191
                              replace q191 := eq_true q191
                              go_wp2
                              repeat (go_quiet (fail); try go_wp2)
                              go_ret
                              exact ⟨by first | rfl | (simp [errW_none, errW_some] <;> rfl) | (simp only [← hji14]; first | rfl | (simp [errW_none, errW_some] <;> rfl)) | (simp [*, errW_none, errW_some] <;> rfl), by repeat (first | (with_reducible first | exact HB.out | apply below_alloc | apply pw_below_drewN | apply below_drew1) | exact HB.out)⟩
                            · rw [if_neg c17] at H
                              have c17b0 : decide (((rd_T30 t179 x6_1).f2) ≤ ((rd_T30 t179 (ji14)).f2)) = false := decide_eq_false c17
                              clear c17
                              by_cases c18 : (wrap64 (((rd_T30 t179 x6_1).f2) + 1)) < 0
                              · rw [if_pos c18] at H
                                have c18b0 : decide ((wrap64 (((rd_T30 t179 x6_1).f2) + 1)) < 0) = true := decide_eq_true c18
                                clear c18
                                obtain rfl := Option.some.inj H
                                have p190 : 0 ≤ (x6_1 : Int) := of_decide_eq_true (by first | (with_reducible assumption) | assumption)
                                have q190 : x6_1 < (t179.length : Int) := of_decide_eq_true (by first | (with_reducible assumption) | assumption)
                                obtain ⟨ad190, e190, hx190_0, hx190_1, hx190_2⟩ := at_T30 (Kd.R_reads' HO_3.out).2.2 x6_1 p190 q190
                                obtain rfl : ad186 = ad190 := (by injection e190)
                                replace p190 := eq_true p190
                                replace q190 := eq_true q190
                                have p191 : 0 ≤ ((ji14) : Int) := of_decide_eq_true (by first | (with_reducible assumption) | assumption)
                                have q191 : (ji14) < (t179.length : Int) := of_decide_eq_true (by first | (with_reducible assumption) | assumption)
                                obtain ⟨ad191, e191, hx191_0, hx191_1, hx191_2⟩ := at_T30 (Kd.R_reads' HO_3.out).2.2 (ji14) p191 q191
                                obtain rfl : ad186 = ad191 := (by injection e191)
                                replace p191 := eq_true p191
                                replace q191 := eq_true q191
                                go_wp2
                                repeat (go_quiet (fail); try go_wp2)
                                go_ret
                                exact ⟨by first | rfl | (simp [errW_none, errW_some] <;> rfl) | (simp only [← hji14]; first | rfl | (simp [errW_none, errW_some] <;> rfl)) | (simp [*, errW_none, errW_some] <;> rfl), by repeat (first | (with_reducible first | exact HB.out | apply below_alloc | apply pw_below_drewN | apply below_drew1) | exact HB.out)⟩
                              · rw [if_neg c18] at H
                                have c18b0 : decide ((wrap64 (((rd_T30 t179 x6_1).f2) + 1)) < 0) = false := decide_eq_false c18
                                clear c18
                                by_cases c19 : (wrap64 ((wrap64 (((rd_T30 t179 x6_1).f2) + 1)) + (((rd_T30 t179 x6_1).f1).size : Int))) > (a0.size : Int)
                                · rw [if_pos c19] at H
                                  have c19b0 : decide ((a0.size : Int) < (wrap64 ((wrap64 (((rd_T30 t179 x6_1).f2) + 1)) + (((rd_T30 t179 x6_1).f1).size : Int)))) = true := decide_eq_true c19
                                  clear c19
                                  obtain rfl := Option.some.inj H
                                  have p190 : 0 ≤ (x6_1 : Int) := of_decide_eq_true (by first | (with_reducible assumption) | assumption)
                                  have q190 : x6_1 < (t179.length : Int) := of_decide_eq_true (by first | (with_reducible assumption) | assumption)
                                  obtain ⟨ad190, e190, hx190_0, hx190_1, hx190_2⟩ := at_T30 (Kd.R_reads' HO_3.out).2.2 x6_1 p190 q190
                                  obtain rfl : ad186 = ad190 := (by injection e190)
                                  replace p190 := eq_true p190
                                  replace q190 := eq_true q190
                                  have p191 : 0 ≤ ((ji14) : Int) := of_decide_eq_true (by first | (with_reducible assumption) | assumption)
                                  have q191 : (ji14) < (t179.length : Int) := of_decide_eq_true (by first | (with_reducible assumption) | assumption)
                                  obtain ⟨ad191, e191, hx191_0, hx191_1, hx191_2⟩ := at_T30 (Kd.R_reads' HO_3.out).2.2 (ji14) p191 q191
                                  obtain rfl : ad186 = ad191 := (by injection e191)
                                  replace p191 := eq_true p191
                                  replace q191 := eq_true q191
                                  go_wp2
                                  repeat (go_quiet (fail); try go_wp2)
                                  go_ret
                                  exact ⟨by first | rfl | (simp [errW_none, errW_some] <;> rfl) | (simp only [← hji14]; first | rfl | (simp [errW_none, errW_some] <;> rfl)) | (simp [*, errW_none, errW_some] <;> rfl), by repeat (first | (with_reducible first | exact HB.out | apply below_alloc | apply pw_below_drewN | apply below_drew1) | exact HB.out)⟩
                                · rw [if_neg c19] at H
                                  have c19b0 : decide ((a0.size : Int) < (wrap64 ((wrap64 (((rd_T30 t179 x6_1).f2) + 1)) + (((rd_T30 t179 x6_1).f1).size : Int)))) = false := decide_eq_false c19
                                  clear c19
                                  obtain ⟨ji20, hji20⟩ : ∃ j_ : Int, (wrap64 (((rd_T30 t179 x6_1).f2) + 1)) = j_ := ⟨_, rfl⟩
                                  replace H : (if 0 ≤ (ji20) then (if (ji20) ≤ (wrap64 ((ji20) + (((rd_T30 t179 x6_1).f1).size : Int))) then (if (wrap64 ((ji20) + (((rd_T30 t179 x6_1).f1).size : Int))) ≤ (a0.size : Int) then (if (a0.extract ((ji20) : Int).toNat ((wrap64 ((ji20) + (((rd_T30 t179 x6_1).f1).size : Int))) : Int).toNat).toList = ((rd_T30 t179 x6_1).f1).toList then (stencillaw05_XplexPlaces.l0 kj6 a0 t179 (wrap64 (x6_1 + 1))) else (some false)) else (none)) else (none)) else (none)) = some r := by first | (rw [hji20] at H; exact H) | (simp only [hji20] at H ⊢; exact H)
                                  (try rw [hji20] at c18b0)
                                  (try rw [hji20] at c19b0)
                                  have hji20w : (IntKind.i64.wrap (((rd_T30 t179 x6_1).f2) + 1)) = ji20 := (i64_w _).trans hji20
                                  by_cases c21 : 0 ≤ (ji20)
                                  · rw [if_pos c21] at H
                                    have c21b0 := eq_true c21
                                    have c21b1 : decide (0 ≤ (ji20)) = true := decide_eq_true c21
                                    clear c21
                                    by_cases c22 : (ji20) ≤ (wrap64 ((ji20) + (((rd_T30 t179 x6_1).f1).size : Int)))
                                    · rw [if_pos c22] at H
                                      have c22b0 := eq_true c22
                                      have c22b1 : decide ((ji20) ≤ (wrap64 ((ji20) + (((rd_T30 t179 x6_1).f1).size : Int)))) = true := decide_eq_true c22
                                      by_cases c23 : (wrap64 ((ji20) + (((rd_T30 t179 x6_1).f1).size : Int))) ≤ (a0.size : Int)
                                      · rw [if_pos c23] at H
                                        have c23b0 := eq_true c23
                                        have c23b1 : decide ((wrap64 ((ji20) + (((rd_T30 t179 x6_1).f1).size : Int))) ≤ (a0.size : Int)) = true := decide_eq_true c23
                                        by_cases c24 : (a0.extract ((ji20) : Int).toNat ((wrap64 ((ji20) + (((rd_T30 t179 x6_1).f1).size : Int))) : Int).toNat).toList = ((rd_T30 t179 x6_1).f1).toList
                                        · rw [if_pos c24] at H
                                          have c24b0 : ((a0.extract ((ji20) : Int).toNat ((wrap64 ((ji20) + (((rd_T30 t179 x6_1).f1).size : Int))) : Int).toNat).toList == ((rd_T30 t179 x6_1).f1).toList) = true := beq_iff_eq.mpr c24
                                          have c24b1 : ((a0.extract ((ji20) : Int).toNat ((wrap64 ((ji20) + (((rd_T30 t179 x6_1).f1).size : Int))) : Int).toNat).toList != ((rd_T30 t179 x6_1).f1).toList) = false := bne_eq_false_iff_eq.mpr c24
                                          clear c24
                                          have H' := Aside0.mk H
                                          clear H
                                          have p190 : 0 ≤ (x6_1 : Int) := of_decide_eq_true (by first | (with_reducible assumption) | assumption)
                                          have q190 : x6_1 < (t179.length : Int) := of_decide_eq_true (by first | (with_reducible assumption) | assumption)
                                          obtain ⟨ad190, e190, hx190_0, hx190_1, hx190_2⟩ := at_T30 (Kd.R_reads' HO_3.out).2.2 x6_1 p190 q190
                                          obtain rfl : ad186 = ad190 := (by injection e190)
                                          replace p190 := eq_true p190
                                          replace q190 := eq_true q190
                                          have p191 : 0 ≤ ((ji14) : Int) := of_decide_eq_true (by first | (with_reducible assumption) | assumption)
                                          have q191 : (ji14) < (t179.length : Int) := of_decide_eq_true (by first | (with_reducible assumption) | assumption)
                                          obtain ⟨ad191, e191, hx191_0, hx191_1, hx191_2⟩ := at_T30 (Kd.R_reads' HO_3.out).2.2 (ji14) p191 q191
                                          obtain rfl : ad186 = ad191 := (by injection e191)
                                          replace p191 := eq_true p191
                                          replace q191 := eq_true q191
                                          go_wp2
                                          repeat (go_quiet (fail); try go_wp2)
                                          go_roundg kj6
                                          case measure => have := HK1.out; have := HJ6.out; omega
                                          case rel => exact ⟨(wrap64 (x6_1 + 1)), (by first | rfl | (simp; done) | (simp [*]; done)), H', ⟨by have := HK1.out; have := HJ6.out; omega⟩, ⟨by (with_reducible repeat (first | apply Kd.R_alloc | apply Kd.R_drewN | apply Kd.R_drew)); exact HO_3.out⟩, ⟨by repeat (first | (with_reducible first | exact HB.out | apply below_alloc | apply pw_below_drewN | apply below_drew1) | exact HB.out)⟩⟩
                                        · rw [if_neg c24] at H
                                          have c24b0 : ((a0.extract ((ji20) : Int).toNat ((wrap64 ((ji20) + (((rd_T30 t179 x6_1).f1).size : Int))) : Int).toNat).toList == ((rd_T30 t179 x6_1).f1).toList) = false := beq_eq_false_iff_ne.mpr c24
                                          have c24b1 : ((a0.extract ((ji20) : Int).toNat ((wrap64 ((ji20) + (((rd_T30 t179 x6_1).f1).size : Int))) : Int).toNat).toList != ((rd_T30 t179 x6_1).f1).toList) = true := bne_iff_ne.mpr c24
                                          obtain rfl := Option.some.inj H
                                          have p190 : 0 ≤ (x6_1 : Int) := of_decide_eq_true (by first | (with_reducible assumption) | assumption)
                                          have q190 : x6_1 < (t179.length : Int) := of_decide_eq_true (by first | (with_reducible assumption) | assumption)
                                          obtain ⟨ad190, e190, hx190_0, hx190_1, hx190_2⟩ := at_T30 (Kd.R_reads' HO_3.out).2.2 x6_1 p190 q190
                                          obtain rfl : ad186 = ad190 := (by injection e190)
                                          replace p190 := eq_true p190
                                          replace q190 := eq_true q190
                                          have p191 : 0 ≤ ((ji14) : Int) := of_decide_eq_true (by first | (with_reducible assumption) | assumption)
                                          have q191 : (ji14) < (t179.length : Int) := of_decide_eq_true (by first | (with_reducible assumption) | assumption)
                                          obtain ⟨ad191, e191, hx191_0, hx191_1, hx191_2⟩ := at_T30 (Kd.R_reads' HO_3.out).2.2 (ji14) p191 q191
                                          obtain rfl : ad186 = ad191 := (by injection e191)
                                          replace p191 := eq_true p191
                                          replace q191 := eq_true q191
                                          go_wp2
                                          repeat (go_quiet (fail); try go_wp2)
                                          go_ret
                                          exact ⟨by first | rfl | (simp [errW_none, errW_some] <;> rfl) | (simp only [← hji14, ← hji20]; first | rfl | (simp [errW_none, errW_some] <;> rfl)) | (simp [*, errW_none, errW_some] <;> rfl), by repeat (first | (with_reducible first | exact HB.out | apply below_alloc | apply pw_below_drewN | apply below_drew1) | exact HB.out)⟩
                                      · rw [if_neg c23] at H
                                        exact absurd H (by simp)
                                    · rw [if_neg c22] at H
                                      exact absurd H (by simp)
                                  · rw [if_neg c21] at H
                                    exact absurd H (by simp)
                          · rw [if_neg c16] at H
                            exact absurd H (by simp)
                        · rw [if_neg c15] at H
                          exact absurd H (by simp)
                      · rw [if_neg c13] at H
                        exact absurd H (by simp)
                    · rw [if_neg c12] at H
                      exact absurd H (by simp)
                  · rw [if_neg c11] at H
                    have c11b0 : decide (0 < x6_1) = false := decide_eq_false c11
                    clear c11
                    by_cases c25 : (wrap64 (((rd_T30 t179 x6_1).f2) + 1)) < 0
                    · rw [if_pos c25] at H
                      have c25b0 : decide ((wrap64 (((rd_T30 t179 x6_1).f2) + 1)) < 0) = true := decide_eq_true c25
                      clear c25
                      obtain rfl := Option.some.inj H
                      go_wp2
                      repeat (go_quiet (fail); try go_wp2)
                      go_ret
                      exact ⟨by first | rfl | (simp [errW_none, errW_some] <;> rfl) | (simp [*, errW_none, errW_some] <;> rfl), by repeat (first | (with_reducible first | exact HB.out | apply below_alloc | apply pw_below_drewN | apply below_drew1) | exact HB.out)⟩
                    · rw [if_neg c25] at H
                      have c25b0 : decide ((wrap64 (((rd_T30 t179 x6_1).f2) + 1)) < 0) = false := decide_eq_false c25
                      clear c25
                      by_cases c26 : (wrap64 ((wrap64 (((rd_T30 t179 x6_1).f2) + 1)) + (((rd_T30 t179 x6_1).f1).size : Int))) > (a0.size : Int)
                      · rw [if_pos c26] at H
                        have c26b0 : decide ((a0.size : Int) < (wrap64 ((wrap64 (((rd_T30 t179 x6_1).f2) + 1)) + (((rd_T30 t179 x6_1).f1).size : Int)))) = true := decide_eq_true c26
                        clear c26
                        obtain rfl := Option.some.inj H
                        go_wp2
                        repeat (go_quiet (fail); try go_wp2)
                        go_ret
                        exact ⟨by first | rfl | (simp [errW_none, errW_some] <;> rfl) | (simp [*, errW_none, errW_some] <;> rfl), by repeat (first | (with_reducible first | exact HB.out | apply below_alloc | apply pw_below_drewN | apply below_drew1) | exact HB.out)⟩
                      · rw [if_neg c26] at H
                        have c26b0 : decide ((a0.size : Int) < (wrap64 ((wrap64 (((rd_T30 t179 x6_1).f2) + 1)) + (((rd_T30 t179 x6_1).f1).size : Int)))) = false := decide_eq_false c26
                        clear c26
                        obtain ⟨ji27, hji27⟩ : ∃ j_ : Int, (wrap64 (((rd_T30 t179 x6_1).f2) + 1)) = j_ := ⟨_, rfl⟩
                        replace H : (if 0 ≤ (ji27) then (if (ji27) ≤ (wrap64 ((ji27) + (((rd_T30 t179 x6_1).f1).size : Int))) then (if (wrap64 ((ji27) + (((rd_T30 t179 x6_1).f1).size : Int))) ≤ (a0.size : Int) then (if (a0.extract ((ji27) : Int).toNat ((wrap64 ((ji27) + (((rd_T30 t179 x6_1).f1).size : Int))) : Int).toNat).toList = ((rd_T30 t179 x6_1).f1).toList then (stencillaw05_XplexPlaces.l0 kj6 a0 t179 (wrap64 (x6_1 + 1))) else (some false)) else (none)) else (none)) else (none)) = some r := by first | (rw [hji27] at H; exact H) | (simp only [hji27] at H ⊢; exact H)
                        (try rw [hji27] at c25b0)
                        (try rw [hji27] at c26b0)
                        have hji27w : (IntKind.i64.wrap (((rd_T30 t179 x6_1).f2) + 1)) = ji27 := (i64_w _).trans hji27
                        by_cases c28 : 0 ≤ (ji27)
                        · rw [if_pos c28] at H
                          have c28b0 := eq_true c28
                          have c28b1 : decide (0 ≤ (ji27)) = true := decide_eq_true c28
                          clear c28
                          by_cases c29 : (ji27) ≤ (wrap64 ((ji27) + (((rd_T30 t179 x6_1).f1).size : Int)))
                          · rw [if_pos c29] at H
                            have c29b0 := eq_true c29
                            have c29b1 : decide ((ji27) ≤ (wrap64 ((ji27) + (((rd_T30 t179 x6_1).f1).size : Int)))) = true := decide_eq_true c29
                            by_cases c30 : (wrap64 ((ji27) + (((rd_T30 t179 x6_1).f1).size : Int))) ≤ (a0.size : Int)
                            · rw [if_pos c30] at H
                              have c30b0 := eq_true c30
                              have c30b1 : decide ((wrap64 ((ji27) + (((rd_T30 t179 x6_1).f1).size : Int))) ≤ (a0.size : Int)) = true := decide_eq_true c30
                              by_cases c31 : (a0.extract ((ji27) : Int).toNat ((wrap64 ((ji27) + (((rd_T30 t179 x6_1).f1).size : Int))) : Int).toNat).toList = ((rd_T30 t179 x6_1).f1).toList
                              · rw [if_pos c31] at H
                                have c31b0 : ((a0.extract ((ji27) : Int).toNat ((wrap64 ((ji27) + (((rd_T30 t179 x6_1).f1).size : Int))) : Int).toNat).toList == ((rd_T30 t179 x6_1).f1).toList) = true := beq_iff_eq.mpr c31
                                have c31b1 : ((a0.extract ((ji27) : Int).toNat ((wrap64 ((ji27) + (((rd_T30 t179 x6_1).f1).size : Int))) : Int).toNat).toList != ((rd_T30 t179 x6_1).f1).toList) = false := bne_eq_false_iff_eq.mpr c31
                                clear c31
                                have H' := Aside0.mk H
                                clear H
                                go_wp2
                                repeat (go_quiet (fail); try go_wp2)
                                go_roundg kj6
                                case measure => have := HK1.out; have := HJ6.out; omega
                                case rel => exact ⟨(wrap64 (x6_1 + 1)), (by first | rfl | (simp; done) | (simp [*]; done)), H', ⟨by have := HK1.out; have := HJ6.out; omega⟩, ⟨by (with_reducible repeat (first | apply Kd.R_alloc | apply Kd.R_drewN | apply Kd.R_drew)); exact HO_3.out⟩, ⟨by repeat (first | (with_reducible first | exact HB.out | apply below_alloc | apply pw_below_drewN | apply below_drew1) | exact HB.out)⟩⟩
                              · rw [if_neg c31] at H
                                have c31b0 : ((a0.extract ((ji27) : Int).toNat ((wrap64 ((ji27) + (((rd_T30 t179 x6_1).f1).size : Int))) : Int).toNat).toList == ((rd_T30 t179 x6_1).f1).toList) = false := beq_eq_false_iff_ne.mpr c31
                                have c31b1 : ((a0.extract ((ji27) : Int).toNat ((wrap64 ((ji27) + (((rd_T30 t179 x6_1).f1).size : Int))) : Int).toNat).toList != ((rd_T30 t179 x6_1).f1).toList) = true := bne_iff_ne.mpr c31
                                obtain rfl := Option.some.inj H
                                go_wp2
                                repeat (go_quiet (fail); try go_wp2)
                                go_ret
                                exact ⟨by first | rfl | (simp [errW_none, errW_some] <;> rfl) | (simp only [← hji27]; first | rfl | (simp [errW_none, errW_some] <;> rfl)) | (simp [*, errW_none, errW_some] <;> rfl), by repeat (first | (with_reducible first | exact HB.out | apply below_alloc | apply pw_below_drewN | apply below_drew1) | exact HB.out)⟩
                            · rw [if_neg c30] at H
                              exact absurd H (by simp)
                          · rw [if_neg c29] at H
                            exact absurd H (by simp)
                        · rw [if_neg c28] at H
                          exact absurd H (by simp)
                · replace c10 := Bool.eq_false_iff.mpr c10
                  subst c10
                  have H1 : (if x6_1 > 0 then (if 0 ≤ x6_1 then (if x6_1 < (t179.length : Int) then (if 0 ≤ (wrap64 (x6_1 - 1)) then (if (wrap64 (x6_1 - 1)) < (t179.length : Int) then (if ((rd_T30 t179 x6_1).f2) ≤ ((rd_T30 t179 (wrap64 (x6_1 - 1))).f2) then (some false) else (if ((rd_T30 t179 x6_1).f2) < 0 then (some false) else (if (wrap64 (((rd_T30 t179 x6_1).f2) + (((rd_T30 t179 x6_1).f1).size : Int))) > (a0.size : Int) then (some false) else (if 0 ≤ ((rd_T30 t179 x6_1).f2) then (if ((rd_T30 t179 x6_1).f2) ≤ (wrap64 (((rd_T30 t179 x6_1).f2) + (((rd_T30 t179 x6_1).f1).size : Int))) then (if (wrap64 (((rd_T30 t179 x6_1).f2) + (((rd_T30 t179 x6_1).f1).size : Int))) ≤ (a0.size : Int) then (if (a0.extract (((rd_T30 t179 x6_1).f2) : Int).toNat ((wrap64 (((rd_T30 t179 x6_1).f2) + (((rd_T30 t179 x6_1).f1).size : Int))) : Int).toNat).toList = ((rd_T30 t179 x6_1).f1).toList then (stencillaw05_XplexPlaces.l0 kj6 a0 t179 (wrap64 (x6_1 + 1))) else (some false)) else (none)) else (none)) else (none))))) else (none)) else (none)) else (none)) else (none)) else (if ((rd_T30 t179 x6_1).f2) < 0 then (some false) else (if (wrap64 (((rd_T30 t179 x6_1).f2) + (((rd_T30 t179 x6_1).f1).size : Int))) > (a0.size : Int) then (some false) else (if 0 ≤ ((rd_T30 t179 x6_1).f2) then (if ((rd_T30 t179 x6_1).f2) ≤ (wrap64 (((rd_T30 t179 x6_1).f2) + (((rd_T30 t179 x6_1).f1).size : Int))) then (if (wrap64 (((rd_T30 t179 x6_1).f2) + (((rd_T30 t179 x6_1).f1).size : Int))) ≤ (a0.size : Int) then (if (a0.extract (((rd_T30 t179 x6_1).f2) : Int).toNat ((wrap64 (((rd_T30 t179 x6_1).f2) + (((rd_T30 t179 x6_1).f1).size : Int))) : Int).toNat).toList = ((rd_T30 t179 x6_1).f1).toList then (stencillaw05_XplexPlaces.l0 kj6 a0 t179 (wrap64 (x6_1 + 1))) else (some false)) else (none)) else (none)) else (none))))) = some r := by rw [if_neg (show ¬ (false = true) by decide)] at H; exact H
                  clear H
                  have H := H1
                  clear H1
                  by_cases c32 : x6_1 > 0
                  · rw [if_pos c32] at H
                    have c32b0 : decide (0 < x6_1) = true := decide_eq_true c32
                    clear c32
                    by_cases c33 : 0 ≤ x6_1
                    · rw [if_pos c33] at H
                      have c33b0 : decide (0 ≤ x6_1) = true := decide_eq_true c33
                      clear c33
                      by_cases c34 : x6_1 < (t179.length : Int)
                      · rw [if_pos c34] at H
                        have c34b0 : decide (x6_1 < (t179.length : Int)) = true := decide_eq_true c34
                        clear c34
                        obtain ⟨ji35, hji35⟩ : ∃ j_ : Int, (wrap64 (x6_1 - 1)) = j_ := ⟨_, rfl⟩
                        replace H : (if 0 ≤ (ji35) then (if (ji35) < (t179.length : Int) then (if ((rd_T30 t179 x6_1).f2) ≤ ((rd_T30 t179 (ji35)).f2) then (some false) else (if ((rd_T30 t179 x6_1).f2) < 0 then (some false) else (if (wrap64 (((rd_T30 t179 x6_1).f2) + (((rd_T30 t179 x6_1).f1).size : Int))) > (a0.size : Int) then (some false) else (if 0 ≤ ((rd_T30 t179 x6_1).f2) then (if ((rd_T30 t179 x6_1).f2) ≤ (wrap64 (((rd_T30 t179 x6_1).f2) + (((rd_T30 t179 x6_1).f1).size : Int))) then (if (wrap64 (((rd_T30 t179 x6_1).f2) + (((rd_T30 t179 x6_1).f1).size : Int))) ≤ (a0.size : Int) then (if (a0.extract (((rd_T30 t179 x6_1).f2) : Int).toNat ((wrap64 (((rd_T30 t179 x6_1).f2) + (((rd_T30 t179 x6_1).f1).size : Int))) : Int).toNat).toList = ((rd_T30 t179 x6_1).f1).toList then (stencillaw05_XplexPlaces.l0 kj6 a0 t179 (wrap64 (x6_1 + 1))) else (some false)) else (none)) else (none)) else (none))))) else (none)) else (none)) = some r := by first | (rw [hji35] at H; exact H) | (simp only [hji35] at H ⊢; exact H)
                        have hji35w : (IntKind.i64.wrap (x6_1 - 1)) = ji35 := (i64_w _).trans hji35
                        by_cases c36 : 0 ≤ (ji35)
                        · rw [if_pos c36] at H
                          have c36b0 : decide (0 ≤ (ji35)) = true := decide_eq_true c36
                          clear c36
                          by_cases c37 : (ji35) < (t179.length : Int)
                          · rw [if_pos c37] at H
                            have c37b0 : decide ((ji35) < (t179.length : Int)) = true := decide_eq_true c37
                            clear c37
                            by_cases c38 : ((rd_T30 t179 x6_1).f2) ≤ ((rd_T30 t179 (ji35)).f2)
                            · rw [if_pos c38] at H
                              have c38b0 : decide (((rd_T30 t179 x6_1).f2) ≤ ((rd_T30 t179 (ji35)).f2)) = true := decide_eq_true c38
                              clear c38
                              obtain rfl := Option.some.inj H
                              have p192 : 0 ≤ (x6_1 : Int) := of_decide_eq_true (by first | (with_reducible assumption) | assumption)
                              have q192 : x6_1 < (t179.length : Int) := of_decide_eq_true (by first | (with_reducible assumption) | assumption)
                              obtain ⟨ad192, e192, hx192_0, hx192_1, hx192_2⟩ := at_T30 (Kd.R_reads' HO_3.out).2.2 x6_1 p192 q192
                              obtain rfl : ad186 = ad192 := (by injection e192)
                              replace p192 := eq_true p192
                              replace q192 := eq_true q192
                              have p193 : 0 ≤ ((ji35) : Int) := of_decide_eq_true (by first | (with_reducible assumption) | assumption)
                              have q193 : (ji35) < (t179.length : Int) := of_decide_eq_true (by first | (with_reducible assumption) | assumption)
                              obtain ⟨ad193, e193, hx193_0, hx193_1, hx193_2⟩ := at_T30 (Kd.R_reads' HO_3.out).2.2 (ji35) p193 q193
                              obtain rfl : ad186 = ad193 := (by injection e193)
                              replace p193 := eq_true p193
                              replace q193 := eq_true q193
                              go_wp2
                              repeat (go_quiet (fail); try go_wp2)
                              go_ret
                              exact ⟨by first | rfl | (simp [errW_none, errW_some] <;> rfl) | (simp only [← hji35]; first | rfl | (simp [errW_none, errW_some] <;> rfl)) | (simp [*, errW_none, errW_some] <;> rfl), by repeat (first | (with_reducible first | exact HB.out | apply below_alloc | apply pw_below_drewN | apply below_drew1) | exact HB.out)⟩
                            · rw [if_neg c38] at H
                              have c38b0 : decide (((rd_T30 t179 x6_1).f2) ≤ ((rd_T30 t179 (ji35)).f2)) = false := decide_eq_false c38
                              clear c38
                              by_cases c39 : ((rd_T30 t179 x6_1).f2) < 0
                              · rw [if_pos c39] at H
                                have c39b0 : decide (((rd_T30 t179 x6_1).f2) < 0) = true := decide_eq_true c39
                                clear c39
                                obtain rfl := Option.some.inj H
                                have p192 : 0 ≤ (x6_1 : Int) := of_decide_eq_true (by first | (with_reducible assumption) | assumption)
                                have q192 : x6_1 < (t179.length : Int) := of_decide_eq_true (by first | (with_reducible assumption) | assumption)
                                obtain ⟨ad192, e192, hx192_0, hx192_1, hx192_2⟩ := at_T30 (Kd.R_reads' HO_3.out).2.2 x6_1 p192 q192
                                obtain rfl : ad186 = ad192 := (by injection e192)
                                replace p192 := eq_true p192
                                replace q192 := eq_true q192
                                have p193 : 0 ≤ ((ji35) : Int) := of_decide_eq_true (by first | (with_reducible assumption) | assumption)
                                have q193 : (ji35) < (t179.length : Int) := of_decide_eq_true (by first | (with_reducible assumption) | assumption)
                                obtain ⟨ad193, e193, hx193_0, hx193_1, hx193_2⟩ := at_T30 (Kd.R_reads' HO_3.out).2.2 (ji35) p193 q193
                                obtain rfl : ad186 = ad193 := (by injection e193)
                                replace p193 := eq_true p193
                                replace q193 := eq_true q193
                                go_wp2
                                repeat (go_quiet (fail); try go_wp2)
                                go_ret
                                exact ⟨by first | rfl | (simp [errW_none, errW_some] <;> rfl) | (simp only [← hji35]; first | rfl | (simp [errW_none, errW_some] <;> rfl)) | (simp [*, errW_none, errW_some] <;> rfl), by repeat (first | (with_reducible first | exact HB.out | apply below_alloc | apply pw_below_drewN | apply below_drew1) | exact HB.out)⟩
                              · rw [if_neg c39] at H
                                have c39b0 : decide (((rd_T30 t179 x6_1).f2) < 0) = false := decide_eq_false c39
                                clear c39
                                by_cases c40 : (wrap64 (((rd_T30 t179 x6_1).f2) + (((rd_T30 t179 x6_1).f1).size : Int))) > (a0.size : Int)
                                · rw [if_pos c40] at H
                                  have c40b0 : decide ((a0.size : Int) < (wrap64 (((rd_T30 t179 x6_1).f2) + (((rd_T30 t179 x6_1).f1).size : Int)))) = true := decide_eq_true c40
                                  clear c40
                                  obtain rfl := Option.some.inj H
                                  have p192 : 0 ≤ (x6_1 : Int) := of_decide_eq_true (by first | (with_reducible assumption) | assumption)
                                  have q192 : x6_1 < (t179.length : Int) := of_decide_eq_true (by first | (with_reducible assumption) | assumption)
                                  obtain ⟨ad192, e192, hx192_0, hx192_1, hx192_2⟩ := at_T30 (Kd.R_reads' HO_3.out).2.2 x6_1 p192 q192
                                  obtain rfl : ad186 = ad192 := (by injection e192)
                                  replace p192 := eq_true p192
                                  replace q192 := eq_true q192
                                  have p193 : 0 ≤ ((ji35) : Int) := of_decide_eq_true (by first | (with_reducible assumption) | assumption)
                                  have q193 : (ji35) < (t179.length : Int) := of_decide_eq_true (by first | (with_reducible assumption) | assumption)
                                  obtain ⟨ad193, e193, hx193_0, hx193_1, hx193_2⟩ := at_T30 (Kd.R_reads' HO_3.out).2.2 (ji35) p193 q193
                                  obtain rfl : ad186 = ad193 := (by injection e193)
                                  replace p193 := eq_true p193
                                  replace q193 := eq_true q193
                                  go_wp2
                                  repeat (go_quiet (fail); try go_wp2)
                                  go_ret
                                  exact ⟨by first | rfl | (simp [errW_none, errW_some] <;> rfl) | (simp only [← hji35]; first | rfl | (simp [errW_none, errW_some] <;> rfl)) | (simp [*, errW_none, errW_some] <;> rfl), by repeat (first | (with_reducible first | exact HB.out | apply below_alloc | apply pw_below_drewN | apply below_drew1) | exact HB.out)⟩
                                · rw [if_neg c40] at H
                                  have c40b0 : decide ((a0.size : Int) < (wrap64 (((rd_T30 t179 x6_1).f2) + (((rd_T30 t179 x6_1).f1).size : Int)))) = false := decide_eq_false c40
                                  clear c40
                                  by_cases c41 : 0 ≤ ((rd_T30 t179 x6_1).f2)
                                  · rw [if_pos c41] at H
                                    have c41b0 := eq_true c41
                                    have c41b1 : decide (0 ≤ ((rd_T30 t179 x6_1).f2)) = true := decide_eq_true c41
                                    clear c41
                                    by_cases c42 : ((rd_T30 t179 x6_1).f2) ≤ (wrap64 (((rd_T30 t179 x6_1).f2) + (((rd_T30 t179 x6_1).f1).size : Int)))
                                    · rw [if_pos c42] at H
                                      have c42b0 := eq_true c42
                                      have c42b1 : decide (((rd_T30 t179 x6_1).f2) ≤ (wrap64 (((rd_T30 t179 x6_1).f2) + (((rd_T30 t179 x6_1).f1).size : Int)))) = true := decide_eq_true c42
                                      by_cases c43 : (wrap64 (((rd_T30 t179 x6_1).f2) + (((rd_T30 t179 x6_1).f1).size : Int))) ≤ (a0.size : Int)
                                      · rw [if_pos c43] at H
                                        have c43b0 := eq_true c43
                                        have c43b1 : decide ((wrap64 (((rd_T30 t179 x6_1).f2) + (((rd_T30 t179 x6_1).f1).size : Int))) ≤ (a0.size : Int)) = true := decide_eq_true c43
                                        by_cases c44 : (a0.extract (((rd_T30 t179 x6_1).f2) : Int).toNat ((wrap64 (((rd_T30 t179 x6_1).f2) + (((rd_T30 t179 x6_1).f1).size : Int))) : Int).toNat).toList = ((rd_T30 t179 x6_1).f1).toList
                                        · rw [if_pos c44] at H
                                          have c44b0 : ((a0.extract (((rd_T30 t179 x6_1).f2) : Int).toNat ((wrap64 (((rd_T30 t179 x6_1).f2) + (((rd_T30 t179 x6_1).f1).size : Int))) : Int).toNat).toList == ((rd_T30 t179 x6_1).f1).toList) = true := beq_iff_eq.mpr c44
                                          have c44b1 : ((a0.extract (((rd_T30 t179 x6_1).f2) : Int).toNat ((wrap64 (((rd_T30 t179 x6_1).f2) + (((rd_T30 t179 x6_1).f1).size : Int))) : Int).toNat).toList != ((rd_T30 t179 x6_1).f1).toList) = false := bne_eq_false_iff_eq.mpr c44
                                          clear c44
                                          have H' := Aside0.mk H
                                          clear H
                                          have p192 : 0 ≤ (x6_1 : Int) := of_decide_eq_true (by first | (with_reducible assumption) | assumption)
                                          have q192 : x6_1 < (t179.length : Int) := of_decide_eq_true (by first | (with_reducible assumption) | assumption)
                                          obtain ⟨ad192, e192, hx192_0, hx192_1, hx192_2⟩ := at_T30 (Kd.R_reads' HO_3.out).2.2 x6_1 p192 q192
                                          obtain rfl : ad186 = ad192 := (by injection e192)
                                          replace p192 := eq_true p192
                                          replace q192 := eq_true q192
                                          have p193 : 0 ≤ ((ji35) : Int) := of_decide_eq_true (by first | (with_reducible assumption) | assumption)
                                          have q193 : (ji35) < (t179.length : Int) := of_decide_eq_true (by first | (with_reducible assumption) | assumption)
                                          obtain ⟨ad193, e193, hx193_0, hx193_1, hx193_2⟩ := at_T30 (Kd.R_reads' HO_3.out).2.2 (ji35) p193 q193
                                          obtain rfl : ad186 = ad193 := (by injection e193)
                                          replace p193 := eq_true p193
                                          replace q193 := eq_true q193
                                          go_wp2
                                          repeat (go_quiet (fail); try go_wp2)
                                          go_roundg kj6
                                          case measure => have := HK1.out; have := HJ6.out; omega
                                          case rel => exact ⟨(wrap64 (x6_1 + 1)), (by first | rfl | (simp; done) | (simp [*]; done)), H', ⟨by have := HK1.out; have := HJ6.out; omega⟩, ⟨by (with_reducible repeat (first | apply Kd.R_alloc | apply Kd.R_drewN | apply Kd.R_drew)); exact HO_3.out⟩, ⟨by repeat (first | (with_reducible first | exact HB.out | apply below_alloc | apply pw_below_drewN | apply below_drew1) | exact HB.out)⟩⟩
                                        · rw [if_neg c44] at H
                                          have c44b0 : ((a0.extract (((rd_T30 t179 x6_1).f2) : Int).toNat ((wrap64 (((rd_T30 t179 x6_1).f2) + (((rd_T30 t179 x6_1).f1).size : Int))) : Int).toNat).toList == ((rd_T30 t179 x6_1).f1).toList) = false := beq_eq_false_iff_ne.mpr c44
                                          have c44b1 : ((a0.extract (((rd_T30 t179 x6_1).f2) : Int).toNat ((wrap64 (((rd_T30 t179 x6_1).f2) + (((rd_T30 t179 x6_1).f1).size : Int))) : Int).toNat).toList != ((rd_T30 t179 x6_1).f1).toList) = true := bne_iff_ne.mpr c44
                                          obtain rfl := Option.some.inj H
                                          have p192 : 0 ≤ (x6_1 : Int) := of_decide_eq_true (by first | (with_reducible assumption) | assumption)
                                          have q192 : x6_1 < (t179.length : Int) := of_decide_eq_true (by first | (with_reducible assumption) | assumption)
                                          obtain ⟨ad192, e192, hx192_0, hx192_1, hx192_2⟩ := at_T30 (Kd.R_reads' HO_3.out).2.2 x6_1 p192 q192
                                          obtain rfl : ad186 = ad192 := (by injection e192)
                                          replace p192 := eq_true p192
                                          replace q192 := eq_true q192
                                          have p193 : 0 ≤ ((ji35) : Int) := of_decide_eq_true (by first | (with_reducible assumption) | assumption)
                                          have q193 : (ji35) < (t179.length : Int) := of_decide_eq_true (by first | (with_reducible assumption) | assumption)
                                          obtain ⟨ad193, e193, hx193_0, hx193_1, hx193_2⟩ := at_T30 (Kd.R_reads' HO_3.out).2.2 (ji35) p193 q193
                                          obtain rfl : ad186 = ad193 := (by injection e193)
                                          replace p193 := eq_true p193
                                          replace q193 := eq_true q193
                                          go_wp2
                                          repeat (go_quiet (fail); try go_wp2)
                                          go_ret
                                          exact ⟨by first | rfl | (simp [errW_none, errW_some] <;> rfl) | (simp only [← hji35]; first | rfl | (simp [errW_none, errW_some] <;> rfl)) | (simp [*, errW_none, errW_some] <;> rfl), by repeat (first | (with_reducible first | exact HB.out | apply below_alloc | apply pw_below_drewN | apply below_drew1) | exact HB.out)⟩
                                      · rw [if_neg c43] at H
                                        exact absurd H (by simp)
                                    · rw [if_neg c42] at H
                                      exact absurd H (by simp)
                                  · rw [if_neg c41] at H
                                    exact absurd H (by simp)
                          · rw [if_neg c37] at H
                            exact absurd H (by simp)
                        · rw [if_neg c36] at H
                          exact absurd H (by simp)
                      · rw [if_neg c34] at H
                        exact absurd H (by simp)
                    · rw [if_neg c33] at H
                      exact absurd H (by simp)
                  · rw [if_neg c32] at H
                    have c32b0 : decide (0 < x6_1) = false := decide_eq_false c32
                    clear c32
                    by_cases c45 : ((rd_T30 t179 x6_1).f2) < 0
                    · rw [if_pos c45] at H
                      have c45b0 : decide (((rd_T30 t179 x6_1).f2) < 0) = true := decide_eq_true c45
                      clear c45
                      obtain rfl := Option.some.inj H
                      go_wp2
                      repeat (go_quiet (fail); try go_wp2)
                      go_ret
                      exact ⟨by first | rfl | (simp [errW_none, errW_some] <;> rfl) | (simp [*, errW_none, errW_some] <;> rfl), by repeat (first | (with_reducible first | exact HB.out | apply below_alloc | apply pw_below_drewN | apply below_drew1) | exact HB.out)⟩
                    · rw [if_neg c45] at H
                      have c45b0 : decide (((rd_T30 t179 x6_1).f2) < 0) = false := decide_eq_false c45
                      clear c45
                      by_cases c46 : (wrap64 (((rd_T30 t179 x6_1).f2) + (((rd_T30 t179 x6_1).f1).size : Int))) > (a0.size : Int)
                      · rw [if_pos c46] at H
                        have c46b0 : decide ((a0.size : Int) < (wrap64 (((rd_T30 t179 x6_1).f2) + (((rd_T30 t179 x6_1).f1).size : Int)))) = true := decide_eq_true c46
                        clear c46
                        obtain rfl := Option.some.inj H
                        go_wp2
                        repeat (go_quiet (fail); try go_wp2)
                        go_ret
                        exact ⟨by first | rfl | (simp [errW_none, errW_some] <;> rfl) | (simp [*, errW_none, errW_some] <;> rfl), by repeat (first | (with_reducible first | exact HB.out | apply below_alloc | apply pw_below_drewN | apply below_drew1) | exact HB.out)⟩
                      · rw [if_neg c46] at H
                        have c46b0 : decide ((a0.size : Int) < (wrap64 (((rd_T30 t179 x6_1).f2) + (((rd_T30 t179 x6_1).f1).size : Int)))) = false := decide_eq_false c46
                        clear c46
                        by_cases c47 : 0 ≤ ((rd_T30 t179 x6_1).f2)
                        · rw [if_pos c47] at H
                          have c47b0 := eq_true c47
                          have c47b1 : decide (0 ≤ ((rd_T30 t179 x6_1).f2)) = true := decide_eq_true c47
                          clear c47
                          by_cases c48 : ((rd_T30 t179 x6_1).f2) ≤ (wrap64 (((rd_T30 t179 x6_1).f2) + (((rd_T30 t179 x6_1).f1).size : Int)))
                          · rw [if_pos c48] at H
                            have c48b0 := eq_true c48
                            have c48b1 : decide (((rd_T30 t179 x6_1).f2) ≤ (wrap64 (((rd_T30 t179 x6_1).f2) + (((rd_T30 t179 x6_1).f1).size : Int)))) = true := decide_eq_true c48
                            by_cases c49 : (wrap64 (((rd_T30 t179 x6_1).f2) + (((rd_T30 t179 x6_1).f1).size : Int))) ≤ (a0.size : Int)
                            · rw [if_pos c49] at H
                              have c49b0 := eq_true c49
                              have c49b1 : decide ((wrap64 (((rd_T30 t179 x6_1).f2) + (((rd_T30 t179 x6_1).f1).size : Int))) ≤ (a0.size : Int)) = true := decide_eq_true c49
                              by_cases c50 : (a0.extract (((rd_T30 t179 x6_1).f2) : Int).toNat ((wrap64 (((rd_T30 t179 x6_1).f2) + (((rd_T30 t179 x6_1).f1).size : Int))) : Int).toNat).toList = ((rd_T30 t179 x6_1).f1).toList
                              · rw [if_pos c50] at H
                                have c50b0 : ((a0.extract (((rd_T30 t179 x6_1).f2) : Int).toNat ((wrap64 (((rd_T30 t179 x6_1).f2) + (((rd_T30 t179 x6_1).f1).size : Int))) : Int).toNat).toList == ((rd_T30 t179 x6_1).f1).toList) = true := beq_iff_eq.mpr c50
                                have c50b1 : ((a0.extract (((rd_T30 t179 x6_1).f2) : Int).toNat ((wrap64 (((rd_T30 t179 x6_1).f2) + (((rd_T30 t179 x6_1).f1).size : Int))) : Int).toNat).toList != ((rd_T30 t179 x6_1).f1).toList) = false := bne_eq_false_iff_eq.mpr c50
                                clear c50
                                have H' := Aside0.mk H
                                clear H
                                go_wp2
                                repeat (go_quiet (fail); try go_wp2)
                                go_roundg kj6
                                case measure => have := HK1.out; have := HJ6.out; omega
                                case rel => exact ⟨(wrap64 (x6_1 + 1)), (by first | rfl | (simp; done) | (simp [*]; done)), H', ⟨by have := HK1.out; have := HJ6.out; omega⟩, ⟨by (with_reducible repeat (first | apply Kd.R_alloc | apply Kd.R_drewN | apply Kd.R_drew)); exact HO_3.out⟩, ⟨by repeat (first | (with_reducible first | exact HB.out | apply below_alloc | apply pw_below_drewN | apply below_drew1) | exact HB.out)⟩⟩
                              · rw [if_neg c50] at H
                                have c50b0 : ((a0.extract (((rd_T30 t179 x6_1).f2) : Int).toNat ((wrap64 (((rd_T30 t179 x6_1).f2) + (((rd_T30 t179 x6_1).f1).size : Int))) : Int).toNat).toList == ((rd_T30 t179 x6_1).f1).toList) = false := beq_eq_false_iff_ne.mpr c50
                                have c50b1 : ((a0.extract (((rd_T30 t179 x6_1).f2) : Int).toNat ((wrap64 (((rd_T30 t179 x6_1).f2) + (((rd_T30 t179 x6_1).f1).size : Int))) : Int).toNat).toList != ((rd_T30 t179 x6_1).f1).toList) = true := bne_iff_ne.mpr c50
                                obtain rfl := Option.some.inj H
                                go_wp2
                                repeat (go_quiet (fail); try go_wp2)
                                go_ret
                                exact ⟨by first | rfl | (simp [errW_none, errW_some] <;> rfl) | (simp [*, errW_none, errW_some] <;> rfl), by repeat (first | (with_reducible first | exact HB.out | apply below_alloc | apply pw_below_drewN | apply below_drew1) | exact HB.out)⟩
                            · rw [if_neg c49] at H
                              exact absurd H (by simp)
                          · rw [if_neg c48] at H
                            exact absurd H (by simp)
                        · rw [if_neg c47] at H
                          exact absurd H (by simp)
          · rw [if_neg c6] at H
            exact absurd H (by simp)
        · rw [if_neg c5] at H
          have c5b0 : decide (x6_1 < (t179.length : Int)) = false := decide_eq_false c5
          clear c5
          replace H := Option.bind_eq_some_iff.mp H
          obtain ⟨t185, A510, H⟩ := H
          replace H : (some t185) = some r := H
          have A51 := Aside0.mk A510
          clear A510
          obtain rfl := Option.some.inj H
          obtain ⟨Ao52, co52, eo52⟩ := Kd.R_slice HO_3.out
          subst eo52
          go_wp2_with (first | (go_at_call 19; (with_reducible refine (stencillaw05_live.calls  t185 _ ?side1 A51.out).mono ?_); (case side1 => first | exact HLD | exact Laid.below HLD (by repeat (first | (with_reducible first | exact HB.out | apply below_alloc | apply pw_below_drewN | apply below_drew1) | exact HB.out))); rintro e w53 ⟨rfl, hb⟩; have n0_ := Aside0.mk (Kd.R_below (by (with_reducible repeat (first | apply Kd.R_alloc | apply Kd.R_drewN | apply Kd.R_drew)); exact HO_3.out) hb); have n1_ := Aside0.mk (below_step (by repeat (first | (with_reducible first | exact HB.out | apply below_alloc | apply pw_below_drewN | apply below_drew1) | exact HB.out)) hb); clear HO_3; clear HB; have HO_3 := n0_; have HB := n1_; clear n0_ n1_; (try clear hb); (try clear hb2); (try clear hk); (try clear hi)))
          repeat (go_quiet (first | (go_at_call 19; (with_reducible refine (stencillaw05_live.calls  t185 _ ?side1 A51.out).mono ?_); (case side1 => first | exact HLD | exact Laid.below HLD (by repeat (first | (with_reducible first | exact HB.out | apply below_alloc | apply pw_below_drewN | apply below_drew1) | exact HB.out))); rintro e w53 ⟨rfl, hb⟩; have n0_ := Aside0.mk (Kd.R_below (by (with_reducible repeat (first | apply Kd.R_alloc | apply Kd.R_drewN | apply Kd.R_drew)); exact HO_3.out) hb); have n1_ := Aside0.mk (below_step (by repeat (first | (with_reducible first | exact HB.out | apply below_alloc | apply pw_below_drewN | apply below_drew1) | exact HB.out)) hb); clear HO_3; clear HB; have HO_3 := n0_; have HB := n1_; clear n0_ n1_; (try clear hb); (try clear hb2); (try clear hk); (try clear hi))); try go_wp2_with (first | (go_at_call 19; (with_reducible refine (stencillaw05_live.calls  t185 _ ?side1 A51.out).mono ?_); (case side1 => first | exact HLD | exact Laid.below HLD (by repeat (first | (with_reducible first | exact HB.out | apply below_alloc | apply pw_below_drewN | apply below_drew1) | exact HB.out))); rintro e w53 ⟨rfl, hb⟩; have n0_ := Aside0.mk (Kd.R_below (by (with_reducible repeat (first | apply Kd.R_alloc | apply Kd.R_drewN | apply Kd.R_drew)); exact HO_3.out) hb); have n1_ := Aside0.mk (below_step (by repeat (first | (with_reducible first | exact HB.out | apply below_alloc | apply pw_below_drewN | apply below_drew1) | exact HB.out)) hb); clear HO_3; clear HB; have HO_3 := n0_; have HB := n1_; clear n0_ n1_; (try clear hb); (try clear hb2); (try clear hk); (try clear hi))))
          go_ret
          exact ⟨by first | rfl | (simp [errW_none, errW_some] <;> rfl) | (simp [*, errW_none, errW_some] <;> rfl), by repeat (first | (with_reducible first | exact HB.out | apply below_alloc | apply pw_below_drewN | apply below_drew1) | exact HB.out)⟩
  · rw [if_neg c3] at H
    have c3b0 : (t180 == 0) = false := beq_eq_false_iff_ne.mpr c3
    have c3b1 : (t180 != 0) = true := bne_iff_ne.mpr c3
    replace H := Option.bind_eq_some_iff.mp H
    obtain ⟨t184, A540, H⟩ := H
    replace H : (some t184) = some r := H
    have A54 := Aside0.mk A540
    clear A540
    obtain rfl := Option.some.inj H
    go_enter Tryd.func5, Tryd.ntmps5
    go_wp2_with (first | (go_at_call 18; (with_reducible refine (xplex_Scan.calls a0 t179 t180 t181 _ ?side1 A2.out).mono ?_); (case side1 => first | exact HLD | exact Laid.below HLD (by repeat (first | (with_reducible first | exact HB.out | apply below_alloc | apply pw_below_drewN | apply below_drew1) | exact HB.out))); rintro e w55 ⟨v182, rfl, ho0, hb⟩; have n0_ := Aside0.mk (Kd.R_lower ho0 (below_size (by repeat (first | (with_reducible first | exact HB.out | apply below_alloc | apply pw_below_drewN | apply below_drew1) | exact HB.out)))); have n1_ := Aside0.mk (below_step (by repeat (first | (with_reducible first | exact HB.out | apply below_alloc | apply pw_below_drewN | apply below_drew1) | exact HB.out)) hb); clear HB; have HO183 := n0_; have HB := n1_; clear n0_ n1_; (try clear hb); (try clear hb2); (try clear hk); (try clear hi); (try clear ho0)) | (go_at_call 19; (with_reducible refine (stencillaw05_live.calls  t184 _ ?side1 A54.out).mono ?_); (case side1 => first | exact HLD | exact Laid.below HLD (by repeat (first | (with_reducible first | exact HB.out | apply below_alloc | apply pw_below_drewN | apply below_drew1) | exact HB.out))); rintro e w56 ⟨rfl, hb⟩; have n0_ := Aside0.mk (Kd.R_below (by (with_reducible repeat (first | apply Kd.R_alloc | apply Kd.R_drewN | apply Kd.R_drew)); exact HO183.out) hb); have n1_ := Aside0.mk (below_step (by repeat (first | (with_reducible first | exact HB.out | apply below_alloc | apply pw_below_drewN | apply below_drew1) | exact HB.out)) hb); clear HO183; clear HB; have HO183 := n0_; have HB := n1_; clear n0_ n1_; (try clear hb); (try clear hb2); (try clear hk); (try clear hi)))
    repeat (go_quiet (first | (go_at_call 18; (with_reducible refine (xplex_Scan.calls a0 t179 t180 t181 _ ?side1 A2.out).mono ?_); (case side1 => first | exact HLD | exact Laid.below HLD (by repeat (first | (with_reducible first | exact HB.out | apply below_alloc | apply pw_below_drewN | apply below_drew1) | exact HB.out))); rintro e w55 ⟨v182, rfl, ho0, hb⟩; have n0_ := Aside0.mk (Kd.R_lower ho0 (below_size (by repeat (first | (with_reducible first | exact HB.out | apply below_alloc | apply pw_below_drewN | apply below_drew1) | exact HB.out)))); have n1_ := Aside0.mk (below_step (by repeat (first | (with_reducible first | exact HB.out | apply below_alloc | apply pw_below_drewN | apply below_drew1) | exact HB.out)) hb); clear HB; have HO183 := n0_; have HB := n1_; clear n0_ n1_; (try clear hb); (try clear hb2); (try clear hk); (try clear hi); (try clear ho0)) | (go_at_call 19; (with_reducible refine (stencillaw05_live.calls  t184 _ ?side1 A54.out).mono ?_); (case side1 => first | exact HLD | exact Laid.below HLD (by repeat (first | (with_reducible first | exact HB.out | apply below_alloc | apply pw_below_drewN | apply below_drew1) | exact HB.out))); rintro e w56 ⟨rfl, hb⟩; have n0_ := Aside0.mk (Kd.R_below (by (with_reducible repeat (first | apply Kd.R_alloc | apply Kd.R_drewN | apply Kd.R_drew)); exact HO183.out) hb); have n1_ := Aside0.mk (below_step (by repeat (first | (with_reducible first | exact HB.out | apply below_alloc | apply pw_below_drewN | apply below_drew1) | exact HB.out)) hb); clear HO183; clear HB; have HO183 := n0_; have HB := n1_; clear n0_ n1_; (try clear hb); (try clear hb2); (try clear hk); (try clear hi))); try go_wp2_with (first | (go_at_call 18; (with_reducible refine (xplex_Scan.calls a0 t179 t180 t181 _ ?side1 A2.out).mono ?_); (case side1 => first | exact HLD | exact Laid.below HLD (by repeat (first | (with_reducible first | exact HB.out | apply below_alloc | apply pw_below_drewN | apply below_drew1) | exact HB.out))); rintro e w55 ⟨v182, rfl, ho0, hb⟩; have n0_ := Aside0.mk (Kd.R_lower ho0 (below_size (by repeat (first | (with_reducible first | exact HB.out | apply below_alloc | apply pw_below_drewN | apply below_drew1) | exact HB.out)))); have n1_ := Aside0.mk (below_step (by repeat (first | (with_reducible first | exact HB.out | apply below_alloc | apply pw_below_drewN | apply below_drew1) | exact HB.out)) hb); clear HB; have HO183 := n0_; have HB := n1_; clear n0_ n1_; (try clear hb); (try clear hb2); (try clear hk); (try clear hi); (try clear ho0)) | (go_at_call 19; (with_reducible refine (stencillaw05_live.calls  t184 _ ?side1 A54.out).mono ?_); (case side1 => first | exact HLD | exact Laid.below HLD (by repeat (first | (with_reducible first | exact HB.out | apply below_alloc | apply pw_below_drewN | apply below_drew1) | exact HB.out))); rintro e w56 ⟨rfl, hb⟩; have n0_ := Aside0.mk (Kd.R_below (by (with_reducible repeat (first | apply Kd.R_alloc | apply Kd.R_drewN | apply Kd.R_drew)); exact HO183.out) hb); have n1_ := Aside0.mk (below_step (by repeat (first | (with_reducible first | exact HB.out | apply below_alloc | apply pw_below_drewN | apply below_drew1) | exact HB.out)) hb); clear HO183; clear HB; have HO183 := n0_; have HB := n1_; clear n0_ n1_; (try clear hb); (try clear hb2); (try clear hk); (try clear hi))))
    go_ret
    exact ⟨by first | rfl | (simp [errW_none, errW_some] <;> rfl) | (simp [*, errW_none, errW_some] <;> rfl), by repeat (first | (with_reducible first | exact HB.out | apply below_alloc | apply pw_below_drewN | apply below_drew1) | exact HB.out)⟩

/-- THE ONE PURE STATEMENT of stencillaw05_XplexPlaces: yours. -/
def stencillaw05_XplexPlaces.Pure : Prop := ∀ (a0 : ByteArray), a0.size ≤ 140737488351232 → ∃ k, stencillaw05_XplexPlaces.f k a0 = some true
theorem stencillaw05_XplexPlaces.walk (P : stencillaw05_XplexPlaces.Pure) (a0 : ByteArray) (w : World) (w0 : a0.size ≤ 140737488351232) (HLD : Laid w) :
    Calls Tryd.prog 5 #[.string a0] w fun e w' => e = .returned (.bool true) ∧ Below w.heap.size w w' := by
  obtain ⟨k, h⟩ := P a0 w0
  refine (stencillaw05_XplexPlaces.calls k a0 true w HLD h).mono ?_
  rintro e w' ⟨rfl, hd⟩
  exact ⟨rfl, hd⟩

/-! ### xplex_Literal: function 24 -/
def xplex_Literal.l0 : Nat → ByteArray → List ByteArray → Int → Int → Option (ByteArray × Int)
  | 0, _, _, _, _ => none
  | k + 1, x0, x6, x7, x8 => if x8 < x7 then (if 0 ≤ x8 then (if x8 < (x6.length : Int) then ((strings_Contains.f x0 (rdOf ByteArray.empty x6 x8)).bind fun t198 => (if t198 = true then (xplex_Literal.l0 k x0 x6 x7 (wrap64 (x8 + 1))) else (if (rdOf ByteArray.empty x6 x8).size + x0.size ≤ 9223372036854775807 then (if (rdOf ByteArray.empty x6 x8).size + x0.size + (rdOf ByteArray.empty x6 x8).size ≤ 9223372036854775807 then (some (((rdOf ByteArray.empty x6 x8) ++ x0) ++ (rdOf ByteArray.empty x6 x8), 0)) else (none)) else (none)))) else (none)) else (none)) else (some ((⟨#[]⟩ : ByteArray), 9))
def xplex_Literal.f (k : Nat) (a0 : ByteArray) : Option (ByteArray × Int) := (some (([(⟨#[34]⟩ : ByteArray), (⟨#[39]⟩ : ByteArray)] : List ByteArray) : List ByteArray)).bind fun y194 => (xplex_Literal.l0 k a0 y194 (y194.length : Int) 0)
theorem xplex_Literal.mono_l : ∀ k, (∀ y0 y1 y2 y3, LeO (xplex_Literal.l0 k y0 y1 y2 y3) (xplex_Literal.l0 (k + 1) y0 y1 y2 y3))
  | 0 => fun _ _ _ _ r h => by simp [xplex_Literal.l0] at h
  | k + 1 => by
    have ih0 := xplex_Literal.mono_l k
    · intro y0 y1 y2 y3
      unfold xplex_Literal.l0
      repeat' first
      | (with_reducible exact ih0 _ _ _ _)
      | (with_reducible exact LeO.refl _)
      | (with_reducible exact LeO.none _)
      | (with_reducible refine LeO.ite ?_ ?_)
      | (with_reducible refine LeO.bind ?_ (fun _ => ?_))
      | exact ih0 _ _ _ _
      | exact LeO.none _
      | refine LeO.ite ?_ ?_
      | refine LeO.bind ?_ (fun _ => ?_)
theorem xplex_Literal.mono : ∀ a0 k, LeO (xplex_Literal.f k a0) (xplex_Literal.f (k + 1) a0) := by
  intro a0 k
  have ih0 := xplex_Literal.mono_l k
  unfold xplex_Literal.f
  repeat' first
      | (with_reducible exact ih0 _ _ _ _)
      | (with_reducible exact LeO.refl _)
      | (with_reducible exact LeO.none _)
      | (with_reducible refine LeO.ite ?_ ?_)
      | (with_reducible refine LeO.bind ?_ (fun _ => ?_))
      | exact ih0 _ _ _ _
      | exact LeO.none _
      | refine LeO.ite ?_ ?_
      | refine LeO.bind ?_ (fun _ => ?_)
set_option maxHeartbeats 8000000 in
set_option maxRecDepth 100000 in
theorem xplex_Literal.calls (k : Nat) (a0 : ByteArray) (r1 : ByteArray) (r2 : Int) (w : World) (HLD : Laid w) (h : xplex_Literal.f k a0 = some (r1, r2)) :
    Calls Tryd.prog 24 #[.string a0] w fun e w' => e = .returned (.tuple #[.string r1, .int .i64 r2]) ∧ Below w.heap.size w w' := by
  have HB := Aside0.mk (Below.refl w.heap.size w)
  have H : ((some (([(⟨#[34]⟩ : ByteArray), (⟨#[39]⟩ : ByteArray)] : List ByteArray) : List ByteArray)).bind fun y194 => (xplex_Literal.l0 k a0 y194 (y194.length : Int) 0)) = some (r1, r2) := h
  clear h
  obtain ⟨y194, hy194⟩ : ∃ y_ : List ByteArray, y_ = (([(⟨#[34]⟩ : ByteArray), (⟨#[39]⟩ : ByteArray)] : List ByteArray)) := ⟨_, rfl⟩
  replace H : (xplex_Literal.l0 k a0 y194 (y194.length : Int) 0) = some (r1, r2) := by first | (rw [hy194]; with_reducible exact H) | (have H2_ := (Option.bind_some _ _).symm.trans H; rw [hy194]; with_reducible exact H2_) | (have H2_ := (Option.bind_some _ _).symm.trans H; with_reducible exact H2_) | with_reducible exact H | (rw [hy194]; exact H) | exact H
  have Ny194 := Aside0.mk hy194
  clear hy194
  have H' := Aside0.mk H
  clear H
  go_enter Tryd.func24, Tryd.ntmps24
  go_wp2_with (first | ((with_reducible refine gate_dst (N := 6) rfl ?_); refine Kd.R_lit Kd.string _ 9 ?hg (N := 6) ?hd (xs := ([(⟨#[34]⟩ : ByteArray), (⟨#[39]⟩ : ByteArray)] : List ByteArray)) (inner := [.string (⟨#[34]⟩ : ByteArray), .string (⟨#[39]⟩ : ByteArray)]) (ok := fun _ => True) (okp := fun _ => True) ?hr ?hp (fun _ hk => hk) trivial (Below.refl _ _) (Nat.le_refl _) (by simp) ?_; (case hd => rfl); (case hg => rfl); (case hr => first | (go_simp; done) | (go_simp; rfl)); (case hp => exact (Reps.one (show Kd.M Kd.string _ _ _ (⟨#[34]⟩ : ByteArray) [.string (⟨#[34]⟩ : ByteArray)] from rfl) (Reps.one (show Kd.M Kd.string _ _ _ (⟨#[39]⟩ : ByteArray) [.string (⟨#[39]⟩ : ByteArray)] from rfl) (Reps.none _ _)))); intro v195 w2 ho3 hb hg_ hnew_; clear hg_ hnew_; (first | rw [← Ny194.out] at ho3 | (simp only [Int.reduceToNat] at ho3; rw [← Ny194.out] at ho3)); have n0_ := Aside0.mk (Kd.R_lower ho3 (below_size (by repeat (first | (with_reducible first | exact HB.out | apply below_alloc | apply pw_below_drewN | apply below_drew1) | exact HB.out)))); have n1_ := Aside0.mk (below_step (by repeat (first | (with_reducible first | exact HB.out | apply below_alloc | apply pw_below_drewN | apply below_drew1) | exact HB.out)) hb); clear HB; have HO196 := n0_; have HB := n1_; clear n0_ n1_; clear hb ho3; obtain ⟨Ao4, co4, eo4⟩ := Kd.R_slice HO196.out; subst eo4))
  go_loopg [8] k (fun kq v8 w' => ∃ (x8_1 : Int), v8 = .int .i64 x8_1 ∧ Aside0 (xplex_Literal.l0 kq a0 y194 (y194.length : Int) x8_1 = some (r1, r2)) ∧ Aside0 (kq ≤ k) ∧ Aside0 (Kd.R Kd.string 9 w' w.heap.size (fun _ => True) (.slice Ao4 y194.length co4) y194) ∧ Aside0 (Below w.heap.size w w'))
  case atStart => exact ⟨(0), (by first | rfl | (simp; done) | (simp [*]; done)), H', ⟨Nat.le_refl _⟩, ⟨by (with_reducible repeat (first | apply Kd.R_alloc | apply Kd.R_drewN | apply Kd.R_drew)); exact HO196.out⟩, ⟨by repeat (first | (with_reducible first | exact HB.out | apply below_alloc | apply pw_below_drewN | apply below_drew1) | exact HB.out)⟩⟩
  case round =>
    clear H'
    try clear c2
    try clear p2
    obtain ⟨x8_1, rfl, HA, HK1, HO_6, HB⟩ := hrel
    cases gk with
    | zero => exact absurd HA.out (by simp [xplex_Literal.l0])
    | succ k1 =>
      have H := HA.out
      clear HA
      simp only [xplex_Literal.l0] at H
      by_cases c5 : x8_1 < (y194.length : Int)
      · rw [if_pos c5] at H
        have c5b0 : decide (x8_1 < (y194.length : Int)) = true := decide_eq_true c5
        clear c5
        by_cases c6 : 0 ≤ x8_1
        · rw [if_pos c6] at H
          have c6b0 : decide (0 ≤ x8_1) = true := decide_eq_true c6
          clear c6
          by_cases c7 : x8_1 < (y194.length : Int)
          · rw [if_pos c7] at H
            have c7b0 : decide (x8_1 < (y194.length : Int)) = true := decide_eq_true c7
            clear c7
            replace H := Option.bind_eq_some_iff.mp H
            obtain ⟨t198, A80, H⟩ := H
            replace H : (if t198 = true then (xplex_Literal.l0 k1 a0 y194 (y194.length : Int) (wrap64 (x8_1 + 1))) else (if (rdOf ByteArray.empty y194 x8_1).size + a0.size ≤ 9223372036854775807 then (if (rdOf ByteArray.empty y194 x8_1).size + a0.size + (rdOf ByteArray.empty y194 x8_1).size ≤ 9223372036854775807 then (some (((rdOf ByteArray.empty y194 x8_1) ++ a0) ++ (rdOf ByteArray.empty y194 x8_1), 0)) else (none)) else (none))) = some (r1, r2) := H
            have A8 := Aside0.mk A80
            clear A80
            by_cases c9 : t198 = true
            · subst c9
              have H1 : (xplex_Literal.l0 k1 a0 y194 (y194.length : Int) (wrap64 (x8_1 + 1))) = some (r1, r2) := by rw [if_pos rfl] at H; exact H
              clear H
              have H := H1
              clear H1
              have H' := Aside0.mk H
              clear H
              have p197 : 0 ≤ (x8_1 : Int) := of_decide_eq_true (by first | (with_reducible assumption) | assumption)
              have q197 : x8_1 < (y194.length : Int) := of_decide_eq_true (by first | (with_reducible assumption) | assumption)
              obtain ⟨ad197, e197, hx197_0⟩ := Kd.at_string (Kd.R_reads' HO_6.out).2.2 x8_1 p197 q197
              cases e197
              replace p197 := eq_true p197
              replace q197 := eq_true q197
              go_wp2_with (first | ((with_reducible refine gate_callee (f := 54) rfl ?_); refine goesL_ (some 14) rfl rfl Tryd.func54 (by kernel_rfl) rfl #[.string a0, .string (rdOf ByteArray.empty y194 x8_1)] rfl (by (try simp only [List.map_toArray, List.map_cons, List.map_nil]); first | done | rfl | (simp only [List.length_drop, List.length_take]; rfl)) ?_; (with_reducible refine (strings_Contains.calls a0 (rdOf ByteArray.empty y194 x8_1) true _ ?side1 A8.out).mono ?_); (case side1 => first | exact HLD | exact Laid.below HLD (by repeat (first | (with_reducible first | exact HB.out | apply below_alloc | apply pw_below_drewN | apply below_drew1) | exact HB.out))); rintro e w' ⟨rfl, ⟨nd, rfl⟩⟩; refine ⟨_, rfl, ?_⟩))
              go_roundg k1
              case measure => have := HK1.out; omega
              case rel => exact ⟨(wrap64 (x8_1 + 1)), (by first | rfl | (simp; done) | (simp [*]; done)), H', ⟨by have := HK1.out; omega⟩, ⟨by (with_reducible repeat (first | apply Kd.R_alloc | apply Kd.R_drewN | apply Kd.R_drew)); exact HO_6.out⟩, ⟨by repeat (first | (with_reducible first | exact HB.out | apply below_alloc | apply pw_below_drewN | apply below_drew1) | exact HB.out)⟩⟩
            · replace c9 := Bool.eq_false_iff.mpr c9
              subst c9
              have H1 : (if (rdOf ByteArray.empty y194 x8_1).size + a0.size ≤ 9223372036854775807 then (if (rdOf ByteArray.empty y194 x8_1).size + a0.size + (rdOf ByteArray.empty y194 x8_1).size ≤ 9223372036854775807 then (some (((rdOf ByteArray.empty y194 x8_1) ++ a0) ++ (rdOf ByteArray.empty y194 x8_1), 0)) else (none)) else (none)) = some (r1, r2) := by rw [if_neg (show ¬ (false = true) by decide)] at H; exact H
              clear H
              have H := H1
              clear H1
              by_cases c10 : (rdOf ByteArray.empty y194 x8_1).size + a0.size ≤ 9223372036854775807
              · rw [if_pos c10] at H
                have c10b0 := eq_true c10
                have c10b1 : decide ((rdOf ByteArray.empty y194 x8_1).size + a0.size ≤ 9223372036854775807) = true := decide_eq_true c10
                try have c10b2 : (9223372036854775807 < (rdOf ByteArray.empty y194 x8_1).size + a0.size) = False := eq_false (Nat.not_lt.2 c10)
                by_cases c11 : (rdOf ByteArray.empty y194 x8_1).size + a0.size + (rdOf ByteArray.empty y194 x8_1).size ≤ 9223372036854775807
                · rw [if_pos c11] at H
                  have c11b0 := eq_true c11
                  have c11b1 : decide ((rdOf ByteArray.empty y194 x8_1).size + a0.size + (rdOf ByteArray.empty y194 x8_1).size ≤ 9223372036854775807) = true := decide_eq_true c11
                  try have c11b2 : (9223372036854775807 < (rdOf ByteArray.empty y194 x8_1).size + a0.size + (rdOf ByteArray.empty y194 x8_1).size) = False := eq_false (Nat.not_lt.2 c11)
                  simp only [Option.some.injEq, Prod.mk.injEq] at H
                  obtain ⟨rfl, rfl⟩ := H
                  have p197 : 0 ≤ (x8_1 : Int) := of_decide_eq_true (by first | (with_reducible assumption) | assumption)
                  have q197 : x8_1 < (y194.length : Int) := of_decide_eq_true (by first | (with_reducible assumption) | assumption)
                  obtain ⟨ad197, e197, hx197_0⟩ := Kd.at_string (Kd.R_reads' HO_6.out).2.2 x8_1 p197 q197
                  cases e197
                  replace p197 := eq_true p197
                  replace q197 := eq_true q197
                  go_wp2_with (first | ((with_reducible refine gate_callee (f := 54) rfl ?_); refine goesL_ (some 14) rfl rfl Tryd.func54 (by kernel_rfl) rfl #[.string a0, .string (rdOf ByteArray.empty y194 x8_1)] rfl (by (try simp only [List.map_toArray, List.map_cons, List.map_nil]); first | done | rfl | (simp only [List.length_drop, List.length_take]; rfl)) ?_; (with_reducible refine (strings_Contains.calls a0 (rdOf ByteArray.empty y194 x8_1) false _ ?side1 A8.out).mono ?_); (case side1 => first | exact HLD | exact Laid.below HLD (by repeat (first | (with_reducible first | exact HB.out | apply below_alloc | apply pw_below_drewN | apply below_drew1) | exact HB.out))); rintro e w' ⟨rfl, ⟨nd, rfl⟩⟩; refine ⟨_, rfl, ?_⟩))
                  go_ret2
                  exact ⟨by first | rfl | (simp [errW_none, errW_some] <;> rfl) | (simp [*, errW_none, errW_some] <;> rfl), by repeat (first | (with_reducible first | exact HB.out | apply below_alloc | apply pw_below_drewN | apply below_drew1) | exact HB.out)⟩
                · rw [if_neg c11] at H
                  exact absurd H (by simp)
              · rw [if_neg c10] at H
                exact absurd H (by simp)
          · rw [if_neg c7] at H
            exact absurd H (by simp)
        · rw [if_neg c6] at H
          exact absurd H (by simp)
      · rw [if_neg c5] at H
        have c5b0 : decide (x8_1 < (y194.length : Int)) = false := decide_eq_false c5
        clear c5
        simp only [Option.some.injEq, Prod.mk.injEq] at H
        obtain ⟨rfl, rfl⟩ := H
        go_wp2
        go_ret2
        exact ⟨by first | rfl | (simp [errW_none, errW_some] <;> rfl) | (simp [*, errW_none, errW_some] <;> rfl), by repeat (first | (with_reducible first | exact HB.out | apply below_alloc | apply pw_below_drewN | apply below_drew1) | exact HB.out)⟩

end Go.Proofs.YtinefoocajnhmaaDoor.Print
