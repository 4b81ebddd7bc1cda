-- Laid by xprint.py (ours), out of the seat's translation; Lean checks it.
import Derived.Test.YtfbmojnndbbojaaDoorWInv
import Derived.Test.YtfbmojnndbbojaaDoorPrint0
import Derived.Test.YtfbmojnndbbojaaDoorPrinte1
import Derived.Test.YtfbmojnndbbojaaDoorPrintf6
import Derived.Test.YtfbmojnndbbojaaDoorPrintf19
namespace Go.Proofs.YtfbmojnndbbojaaDoor.Print
open Go.RowKit Go.Proofs.YtfbmojnndbbojaaDoorW.PrintWords Go.Proofs.YtfbmojnndbbojaaDoorW.PrintLast Go.Proofs.YtfbmojnndbbojaaDoorW.PrintMore
attribute [local go_sem] max2_int min2_int max_two min_two max_three min_three max_four min_four   -- for this text's walks alone
open Go.Proofs.YtfbmojnndbbojaaDoor.Plain
set_option linter.unusedVariables false
set_option linter.unusedSimpArgs false

attribute [local go_sem high] eqA24
/-! ### stencillaw02_XnumNear: function 3 -/
def stencillaw02_XnumNear.j0 : Nat → Bool → Int → Int → Option (Bool)
  | 0, _, _, _ => none
  | k + 1, x14, x270000, x270001 => if x14 = true then ((stencillaw02_live.f k).bind fun t271 => (some t271)) else ((xnum_Floor.f x270000 x270001).bind fun bt272 => ((xnum_Ceiling.f k x270000 x270001).bind fun bt274 => ((xnum_Round.f x270000 x270001).bind fun bt276 => ((stencillaw02_live.f k).bind fun t281 => (if t281 = true then (if bt272.2 ≤ x270001 then (if x270001 ≤ bt274.2 then (if (Int.tmod bt272.2 1000000) = 0 then (if (wrap64 (bt274.2 - bt272.2)) = 0 then (if (bt272.1 == x270000 && (bt272.2 == x270001)) = true then (if (bt276.1 == bt272.1 && (bt276.2 == bt272.2)) = true then (if (wrap64 (x270001 - bt272.2)) < 500000 then (some true) else (none)) else (if (bt276.1 == bt274.1 && (bt276.2 == bt274.2)) = true then (none) else (none))) else (none)) else (if (wrap64 (bt274.2 - bt272.2)) = 1000000 then (if (bt276.1 == bt272.1 && (bt276.2 == bt272.2)) = true then (if (wrap64 (x270001 - bt272.2)) < 500000 then (some true) else (none)) else (if (bt276.1 == bt274.1 && (bt276.2 == bt274.2)) = true then (some (decide ((wrap64 (x270001 - bt272.2)) ≥ 500000))) else (none))) else (none))) else (none)) else (none)) else (none)) else (none))))))
def stencillaw02_XnumNear.f (k : Nat) (a0_0 : Int) (a0_1 : Int) : Option (Bool) := (stencilref02_Right.f a0_0 a0_1).bind fun t270 => (if t270 = true then (stencillaw02_XnumNear.j0 k (a0_0 != 0) a0_0 a0_1) else (stencillaw02_XnumNear.j0 k true a0_0 a0_1))
theorem stencillaw02_XnumNear.mono_l : ∀ k, (∀ y0 y1 y2, LeO (stencillaw02_XnumNear.j0 k y0 y1 y2) (stencillaw02_XnumNear.j0 (k + 1) y0 y1 y2))
  | 0 => fun _ _ _ r h => by simp [stencillaw02_XnumNear.j0] at h
  | k + 1 => by
    have ih0 := stencillaw02_XnumNear.mono_l k
    · intro y0 y1 y2
      unfold stencillaw02_XnumNear.j0
      repeat' first
      | (with_reducible exact ih0 _ _ _)
      | (with_reducible exact stencillaw02_live.mono _)
      | (with_reducible exact xnum_Ceiling.mono _ _ _)
      | (with_reducible exact LeO.refl _)
      | (with_reducible exact LeO.none _)
      | (with_reducible refine LeO.ite ?_ ?_)
      | (with_reducible refine LeO.bind ?_ (fun _ => ?_))
      | exact ih0 _ _ _
      | exact stencillaw02_live.mono _
      | exact xnum_Ceiling.mono _ _ _
      | exact LeO.none _
      | refine LeO.ite ?_ ?_
      | refine LeO.bind ?_ (fun _ => ?_)
theorem stencillaw02_XnumNear.mono : ∀ a0 a1 k, LeO (stencillaw02_XnumNear.f k a0 a1) (stencillaw02_XnumNear.f (k + 1) a0 a1) := by
  intro a0 a1 k
  have ih0 := stencillaw02_XnumNear.mono_l k
  unfold stencillaw02_XnumNear.f
  repeat' first
      | (with_reducible exact ih0 _ _ _)
      | (with_reducible exact stencillaw02_live.mono _)
      | (with_reducible exact xnum_Ceiling.mono _ _ _)
      | (with_reducible exact LeO.refl _)
      | (with_reducible exact LeO.none _)
      | (with_reducible refine LeO.ite ?_ ?_)
      | (with_reducible refine LeO.bind ?_ (fun _ => ?_))
      | exact ih0 _ _ _
      | exact stencillaw02_live.mono _
      | exact xnum_Ceiling.mono _ _ _
      | exact LeO.none _
      | refine LeO.ite ?_ ?_
      | refine LeO.bind ?_ (fun _ => ?_)
def stencillaw02_XnumNear.T3 : Bool × List (List Nat × List Nat) := (true, [([], []), ([0], [0]), ([], []), ([2, 1], [2]), ([], []), ([4, 3], [4]), ([], []), ([], []), ([], []), ([6, 1, 5, 0, 1, 6, 7, 8], [1, 6]), ([7, 3, 9, 0, 1, 2, 3, 6, 7, 8, 9], [3, 7]), ([8, 5, 10, 0, 1, 2, 3, 4, 5, 6, 7, 8, 9, 10], [5, 8])])
def stencillaw02_XnumNear.B3 : List Nat := [0, 1, 0, 7, 0, 31, 0, 0, 0, 511, 1023, 2047]
theorem stencillaw02_XnumNear.tab3 : rtab .any (opsOf Tryd.f3 3) = stencillaw02_XnumNear.T3 := by kernel_rfl
theorem stencillaw02_XnumNear.bits3 : waitsOk stencillaw02_XnumNear.T3.2 stencillaw02_XnumNear.B3 = true := by kernel_rfl
set_option maxHeartbeats 8000000 in
set_option maxRecDepth 100000 in
theorem stencillaw02_XnumNear.calls (k : Nat) (a0_0 : Int) (a0_1 : Int) (r : Bool) (w : World) (HLD : Laid w) (h : stencillaw02_XnumNear.f k a0_0 a0_1 = some r) :
    Calls Tryd.prog 3 #[.agg #[.int .i64 a0_0, .int .i64 a0_1]] w fun e w' => e = .returned (.bool r) ∧ Below w.heap.size w w' := by
  have hu24 := Tryd.underlying24
  have HB := Aside0.mk (Below.refl w.heap.size w)
  have H : ((stencilref02_Right.f a0_0 a0_1).bind fun t270 => (if t270 = true then (stencillaw02_XnumNear.j0 k (a0_0 != 0) a0_0 a0_1) else (stencillaw02_XnumNear.j0 k true a0_0 a0_1))) = some r := h
  clear h
  have HC2 := Aside0.mk H
  clear H
  go_enter Tryd.func3, Tryd.ntmps3
  go_upto_region 1 with (first | ((with_reducible refine gate_dst (N := 1) rfl ?_); refine box_event ?hg (N := 1) ?hd (cs := #[.int .i64 a0_0, .int .i64 a0_1]) (t := 24) ?hr ?_; (case hd => rfl); (case hg => rfl); (case hr => first | (go_simp; done) | (go_simp; rfl)); intro gb269 hg w3 hbox hb; have n0_ := Aside0.mk (below_step (by repeat (first | (with_reducible first | exact HB.out | apply below_alloc | apply pw_below_drewN | apply below_drew1) | exact HB.out)) hb); have n1_ := Aside0.mk (hbox); have n2_ := Aside0.mk ((by rw [hg]; exact (below_size (by repeat (first | (with_reducible first | exact HB.out | apply below_alloc | apply pw_below_drewN | apply below_drew1) | exact HB.out))) : w.heap.size ≤ gb269)); have n3_ := Aside0.mk ((by rw [hg]; exact (below_size (by repeat (first | (with_reducible first | exact HB.out | apply below_alloc | apply pw_below_drewN | apply below_drew1) | exact HB.out))) : w.heap.size ≤ gb269)); clear HB; have HB := n0_; have BK269 := n1_; have GW269 := n2_; have GE269 := n3_; clear n0_ n1_ n2_ n3_; clear hb hbox hg))
  (try simp only [Act.put, List.setIfInBounds_toArray, List.set_cons_zero, List.set_cons_succ])
  go_cut [14] (fun v14 wc => ∃ (kq : Nat) (x14_1 : Bool), v14 = .bool x14_1 ∧ Aside0 (stencillaw02_XnumNear.j0 kq x14_1 a0_0 a0_1 = some r) ∧ Aside0 (kq ≤ k) ∧ Aside0 (wc.heap[gb269]? = some (.cells #[.int .i64 a0_0, .int .i64 a0_1] 24 (0, 0))) ∧ Aside0 (Below w.heap.size w wc))
  case first =>
    have H := HC2.out
    clear HC2
    replace H := Option.bind_eq_some_iff.mp H
    obtain ⟨t270, A40, H⟩ := H
    replace H : (if t270 = true then (stencillaw02_XnumNear.j0 k (a0_0 != 0) a0_0 a0_1) else (stencillaw02_XnumNear.j0 k true a0_0 a0_1)) = some r := H
    have A4 := Aside0.mk A40
    clear A40
    by_cases c5 : t270 = true
    · subst c5
      have H1 : (stencillaw02_XnumNear.j0 k (a0_0 != 0) a0_0 a0_1) = some r := by rw [if_pos rfl] at H; exact H
      clear H
      have H := H1
      clear H1
      have H' := Aside0.mk H
      clear H
      have hcz6_0 : w3.cell? ⟨gb269, 0, none⟩ = some (.int .i64 a0_0) := (blk_cell BK269.out 0).trans rfl
      have hcz6_1 : w3.cell? ⟨gb269, 1, none⟩ = some (.int .i64 a0_1) := (blk_cell BK269.out 1).trans rfl
      have hfz6_0 := blk_frozen BK269.out 0
      have hfz6_1 := blk_frozen BK269.out 1
      go_wp2_with (first | ((with_reducible refine gate_callee (f := 6) rfl ?_); refine goesL_ (some 8) rfl rfl Tryd.func6 (by kernel_rfl) rfl #[.agg #[.int .i64 a0_0, .int .i64 a0_1]] rfl (by (try simp only [List.map_toArray, List.map_cons, List.map_nil]); first | done | rfl | (simp only [List.length_drop, List.length_take]; rfl)) ?_; (with_reducible refine (stencilref02_Right.calls a0_0 a0_1 true _ ?side1 A4.out).mono ?_); (case side1 => first | exact HLD | exact Laid.below HLD (by repeat (first | (with_reducible first | exact HB.out | apply below_alloc | apply pw_below_drewN | apply below_drew1 | refine below_set ?_ GE269.out) | exact HB.out))); rintro e w7 ⟨rfl, hb⟩; refine ⟨_, rfl, ?_⟩; have n0_ := Aside0.mk (blk_below (g := gb269) (o := .cells #[.int .i64 a0_0, .int .i64 a0_1] 24 (0, 0)) (by (with_reducible repeat (first | refine blk_drewN ?_ _ | refine blk_drew ?_ | refine blk_alloc ?_ _)); exact BK269.out) hb); have n1_ := Aside0.mk (below_step (by repeat (first | (with_reducible first | exact HB.out | apply below_alloc | apply pw_below_drewN | apply below_drew1 | refine below_set ?_ GE269.out) | exact HB.out)) hb); clear BK269; clear HB; have BK269 := n0_; have HB := n1_; clear n0_ n1_; (try clear hb); (try clear hb2); (try clear hk); (try clear hi); have hcz8_0 : w7.cell? ⟨gb269, 0, none⟩ = some (.int .i64 a0_0) := (blk_cell BK269.out 0).trans rfl; have hcz8_1 : w7.cell? ⟨gb269, 1, none⟩ = some (.int .i64 a0_1) := (blk_cell BK269.out 1).trans rfl; have hfz8_0 := blk_frozen BK269.out 0; have hfz8_1 := blk_frozen BK269.out 1))
      go_meet
      case rel => exact ⟨_, ((a0_0 != 0)), (by first | rfl | (simp; done) | (simp [*]; done)), H', ⟨by first | omega | exact Nat.le_refl _⟩, ⟨by (with_reducible repeat (first | refine blk_drewN ?_ _ | refine blk_drew ?_ | refine blk_alloc ?_ _)); exact BK269.out⟩, ⟨by repeat (first | (with_reducible first | exact HB.out | apply below_alloc | apply pw_below_drewN | apply below_drew1 | refine below_set ?_ GE269.out) | exact HB.out)⟩⟩
    · replace c5 := Bool.eq_false_iff.mpr c5
      subst c5
      have H1 : (stencillaw02_XnumNear.j0 k true a0_0 a0_1) = some r := by rw [if_neg (show ¬ (false = true) by decide)] at H; exact H
      clear H
      have H := H1
      clear H1
      have H' := Aside0.mk H
      clear H
      have hcz9_0 : w3.cell? ⟨gb269, 0, none⟩ = some (.int .i64 a0_0) := (blk_cell BK269.out 0).trans rfl
      have hcz9_1 : w3.cell? ⟨gb269, 1, none⟩ = some (.int .i64 a0_1) := (blk_cell BK269.out 1).trans rfl
      have hfz9_0 := blk_frozen BK269.out 0
      have hfz9_1 := blk_frozen BK269.out 1
      go_wp2_with (first | ((with_reducible refine gate_callee (f := 6) rfl ?_); refine goesL_ (some 8) rfl rfl Tryd.func6 (by kernel_rfl) rfl #[.agg #[.int .i64 a0_0, .int .i64 a0_1]] rfl (by (try simp only [List.map_toArray, List.map_cons, List.map_nil]); first | done | rfl | (simp only [List.length_drop, List.length_take]; rfl)) ?_; (with_reducible refine (stencilref02_Right.calls a0_0 a0_1 false _ ?side1 A4.out).mono ?_); (case side1 => first | exact HLD | exact Laid.below HLD (by repeat (first | (with_reducible first | exact HB.out | apply below_alloc | apply pw_below_drewN | apply below_drew1 | refine below_set ?_ GE269.out) | exact HB.out))); rintro e w10 ⟨rfl, hb⟩; refine ⟨_, rfl, ?_⟩; have n0_ := Aside0.mk (blk_below (g := gb269) (o := .cells #[.int .i64 a0_0, .int .i64 a0_1] 24 (0, 0)) (by (with_reducible repeat (first | refine blk_drewN ?_ _ | refine blk_drew ?_ | refine blk_alloc ?_ _)); exact BK269.out) hb); have n1_ := Aside0.mk (below_step (by repeat (first | (with_reducible first | exact HB.out | apply below_alloc | apply pw_below_drewN | apply below_drew1 | refine below_set ?_ GE269.out) | exact HB.out)) hb); clear BK269; clear HB; have BK269 := n0_; have HB := n1_; clear n0_ n1_; (try clear hb); (try clear hb2); (try clear hk); (try clear hi)))
      go_meet
      case rel => exact ⟨_, (true), (by first | rfl | (simp; done) | (simp [*]; done)), H', ⟨by first | omega | exact Nat.le_refl _⟩, ⟨by (with_reducible repeat (first | refine blk_drewN ?_ _ | refine blk_drew ?_ | refine blk_alloc ?_ _)); exact BK269.out⟩, ⟨by repeat (first | (with_reducible first | exact HB.out | apply below_alloc | apply pw_below_drewN | apply below_drew1 | refine below_set ?_ GE269.out) | exact HB.out)⟩⟩
  case rest =>
    clear HC2
    try clear p2
    try clear c3
    try clear c5
    try clear c6
    try clear hcz6_0
    try clear hcz6_1
    try clear hcz8_0
    try clear hcz8_1
    try clear hcz9_0
    try clear hcz9_1
    try clear hfz6_0
    try clear hfz6_1
    try clear hfz8_0
    try clear hfz8_1
    try clear hfz9_0
    try clear hfz9_1
    obtain ⟨kq, x14_1, rfl, HA, HJ1, BK269, HB⟩ := hcut
    cases kq with
    | zero => exact absurd HA.out (by simp [stencillaw02_XnumNear.j0])
    | succ kj1 =>
      have H := HA.out
      clear HA
      simp only [stencillaw02_XnumNear.j0] at H
      by_cases c11 : x14_1 = true
      · subst c11
        have H1 : ((stencillaw02_live.f kj1).bind fun t271 => (some t271)) = some r := by rw [if_pos rfl] at H; exact H
        clear H
        have H := H1
        clear H1
        replace H := Option.bind_eq_some_iff.mp H
        obtain ⟨t271, A120, H⟩ := H
        replace H : (some t271) = some r := H
        have A12 := Aside0.mk A120
        clear A120
        obtain rfl := Option.some.inj H
        go_wp2_with (first | ((with_reducible refine gate_callee (f := 7) rfl ?_); refine goesL_ (some 15) rfl rfl Tryd.func7 (by kernel_rfl) rfl #[] rfl (by (try simp only [List.map_toArray, List.map_cons, List.map_nil]); first | done | rfl | (simp only [List.length_drop, List.length_take]; rfl)) ?_; (with_reducible refine (stencillaw02_live.calls kj1  t271 _ ?side1 A12.out).mono ?_); (case side1 => first | exact HLD | exact Laid.below HLD (by repeat (first | (with_reducible first | exact HB.out | apply below_alloc | apply pw_below_drewN | apply below_drew1 | refine below_set ?_ GE269.out) | exact HB.out))); rintro e w13 ⟨rfl, hb⟩; refine ⟨_, rfl, ?_⟩; have n0_ := Aside0.mk (blk_below (g := gb269) (o := .cells #[.int .i64 a0_0, .int .i64 a0_1] 24 (0, 0)) (by (with_reducible repeat (first | refine blk_drewN ?_ _ | refine blk_drew ?_ | refine blk_alloc ?_ _)); exact BK269.out) hb); have n1_ := Aside0.mk (below_step (by repeat (first | (with_reducible first | exact HB.out | apply below_alloc | apply pw_below_drewN | apply below_drew1 | refine below_set ?_ GE269.out) | exact HB.out)) hb); clear BK269; clear HB; have BK269 := n0_; have HB := n1_; clear n0_ n1_; (try clear hb); (try clear hb2); (try clear hk); (try clear hi)) | (go_at_call 7; (with_reducible refine (stencillaw02_live.calls kj1  t271 _ ?side1 A12.out).mono ?_); (case side1 => first | exact HLD | exact Laid.below HLD (by repeat (first | (with_reducible first | exact HB.out | apply below_alloc | apply pw_below_drewN | apply below_drew1 | refine below_set ?_ GE269.out) | exact HB.out))); rintro e w13 ⟨rfl, hb⟩; have n0_ := Aside0.mk (blk_below (g := gb269) (o := .cells #[.int .i64 a0_0, .int .i64 a0_1] 24 (0, 0)) (by (with_reducible repeat (first | refine blk_drewN ?_ _ | refine blk_drew ?_ | refine blk_alloc ?_ _)); exact BK269.out) hb); have n1_ := Aside0.mk (below_step (by repeat (first | (with_reducible first | exact HB.out | apply below_alloc | apply pw_below_drewN | apply below_drew1 | refine below_set ?_ GE269.out) | exact HB.out)) hb); clear BK269; clear HB; have BK269 := n0_; have HB := n1_; clear n0_ n1_; (try clear hb); (try clear hb2); (try clear hk); (try clear hi)))
        all_goals (go_ret; exact ⟨by first | rfl | (simp [errW_none, errW_some] <;> rfl) | (simp [*, errW_none, errW_some] <;> rfl), by repeat (first | (with_reducible first | exact HB.out | apply below_alloc | apply pw_below_drewN | apply below_drew1 | refine below_set ?_ GE269.out) | exact HB.out)⟩)
      · replace c11 := Bool.eq_false_iff.mpr c11
        subst c11
        have H1 : ((xnum_Floor.f a0_0 a0_1).bind fun bt272 => ((xnum_Ceiling.f kj1 a0_0 a0_1).bind fun bt274 => ((xnum_Round.f a0_0 a0_1).bind fun bt276 => ((stencillaw02_live.f kj1).bind fun t281 => (if t281 = true then (if bt272.2 ≤ a0_1 then (if a0_1 ≤ bt274.2 then (if (Int.tmod bt272.2 1000000) = 0 then (if (wrap64 (bt274.2 - bt272.2)) = 0 then (if (bt272.1 == a0_0 && (bt272.2 == a0_1)) = true then (if (bt276.1 == bt272.1 && (bt276.2 == bt272.2)) = true then (if (wrap64 (a0_1 - bt272.2)) < 500000 then (some true) else (none)) else (if (bt276.1 == bt274.1 && (bt276.2 == bt274.2)) = true then (none) else (none))) else (none)) else (if (wrap64 (bt274.2 - bt272.2)) = 1000000 then (if (bt276.1 == bt272.1 && (bt276.2 == bt272.2)) = true then (if (wrap64 (a0_1 - bt272.2)) < 500000 then (some true) else (none)) else (if (bt276.1 == bt274.1 && (bt276.2 == bt274.2)) = true then (some (decide ((wrap64 (a0_1 - bt272.2)) ≥ 500000))) else (none))) else (none))) else (none)) else (none)) else (none)) else (none)))))) = some r := by rw [if_neg (show ¬ (false = true) by decide)] at H; exact H
        clear H
        have H := H1
        clear H1
        replace H := Option.bind_eq_some_iff.mp H
        obtain ⟨⟨t272, t273⟩, A140, H⟩ := H
        replace H : ((xnum_Ceiling.f kj1 a0_0 a0_1).bind fun bt274 => ((xnum_Round.f a0_0 a0_1).bind fun bt276 => ((stencillaw02_live.f kj1).bind fun t281 => (if t281 = true then (if t273 ≤ a0_1 then (if a0_1 ≤ bt274.2 then (if (Int.tmod t273 1000000) = 0 then (if (wrap64 (bt274.2 - t273)) = 0 then (if (t272 == a0_0 && (t273 == a0_1)) = true then (if (bt276.1 == t272 && (bt276.2 == t273)) = true then (if (wrap64 (a0_1 - t273)) < 500000 then (some true) else (none)) else (if (bt276.1 == bt274.1 && (bt276.2 == bt274.2)) = true then (none) else (none))) else (none)) else (if (wrap64 (bt274.2 - t273)) = 1000000 then (if (bt276.1 == t272 && (bt276.2 == t273)) = true then (if (wrap64 (a0_1 - t273)) < 500000 then (some true) else (none)) else (if (bt276.1 == bt274.1 && (bt276.2 == bt274.2)) = true then (some (decide ((wrap64 (a0_1 - t273)) ≥ 500000))) else (none))) else (none))) else (none)) else (none)) else (none)) else (none))))) = some r := H
        have A14 := Aside0.mk A140
        clear A140
        replace H := Option.bind_eq_some_iff.mp H
        obtain ⟨⟨t274, t275⟩, A150, H⟩ := H
        replace H : ((xnum_Round.f a0_0 a0_1).bind fun bt276 => ((stencillaw02_live.f kj1).bind fun t281 => (if t281 = true then (if t273 ≤ a0_1 then (if a0_1 ≤ t275 then (if (Int.tmod t273 1000000) = 0 then (if (wrap64 (t275 - t273)) = 0 then (if (t272 == a0_0 && (t273 == a0_1)) = true then (if (bt276.1 == t272 && (bt276.2 == t273)) = true then (if (wrap64 (a0_1 - t273)) < 500000 then (some true) else (none)) else (if (bt276.1 == t274 && (bt276.2 == t275)) = true then (none) else (none))) else (none)) else (if (wrap64 (t275 - t273)) = 1000000 then (if (bt276.1 == t272 && (bt276.2 == t273)) = true then (if (wrap64 (a0_1 - t273)) < 500000 then (some true) else (none)) else (if (bt276.1 == t274 && (bt276.2 == t275)) = true then (some (decide ((wrap64 (a0_1 - t273)) ≥ 500000))) else (none))) else (none))) else (none)) else (none)) else (none)) else (none)))) = some r := H
        have A15 := Aside0.mk A150
        clear A150
        replace H := Option.bind_eq_some_iff.mp H
        obtain ⟨⟨t276, t277⟩, A160, H⟩ := H
        replace H : ((stencillaw02_live.f kj1).bind fun t281 => (if t281 = true then (if t273 ≤ a0_1 then (if a0_1 ≤ t275 then (if (Int.tmod t273 1000000) = 0 then (if (wrap64 (t275 - t273)) = 0 then (if (t272 == a0_0 && (t273 == a0_1)) = true then (if (t276 == t272 && (t277 == t273)) = true then (if (wrap64 (a0_1 - t273)) < 500000 then (some true) else (none)) else (if (t276 == t274 && (t277 == t275)) = true then (none) else (none))) else (none)) else (if (wrap64 (t275 - t273)) = 1000000 then (if (t276 == t272 && (t277 == t273)) = true then (if (wrap64 (a0_1 - t273)) < 500000 then (some true) else (none)) else (if (t276 == t274 && (t277 == t275)) = true then (some (decide ((wrap64 (a0_1 - t273)) ≥ 500000))) else (none))) else (none))) else (none)) else (none)) else (none)) else (none))) = some r := H
        have A16 := Aside0.mk A160
        clear A160
        replace H := Option.bind_eq_some_iff.mp H
        obtain ⟨t281, A170, H⟩ := H
        replace H : (if t281 = true then (if t273 ≤ a0_1 then (if a0_1 ≤ t275 then (if (Int.tmod t273 1000000) = 0 then (if (wrap64 (t275 - t273)) = 0 then (if (t272 == a0_0 && (t273 == a0_1)) = true then (if (t276 == t272 && (t277 == t273)) = true then (if (wrap64 (a0_1 - t273)) < 500000 then (some true) else (none)) else (if (t276 == t274 && (t277 == t275)) = true then (none) else (none))) else (none)) else (if (wrap64 (t275 - t273)) = 1000000 then (if (t276 == t272 && (t277 == t273)) = true then (if (wrap64 (a0_1 - t273)) < 500000 then (some true) else (none)) else (if (t276 == t274 && (t277 == t275)) = true then (some (decide ((wrap64 (a0_1 - t273)) ≥ 500000))) else (none))) else (none))) else (none)) else (none)) else (none)) else (none)) = some r := H
        have A17 := Aside0.mk A170
        clear A170
        by_cases c18 : t281 = true
        · subst c18
          have H1 : (if t273 ≤ a0_1 then (if a0_1 ≤ t275 then (if (Int.tmod t273 1000000) = 0 then (if (wrap64 (t275 - t273)) = 0 then (if (t272 == a0_0 && (t273 == a0_1)) = true then (if (t276 == t272 && (t277 == t273)) = true then (if (wrap64 (a0_1 - t273)) < 500000 then (some true) else (none)) else (if (t276 == t274 && (t277 == t275)) = true then (none) else (none))) else (none)) else (if (wrap64 (t275 - t273)) = 1000000 then (if (t276 == t272 && (t277 == t273)) = true then (if (wrap64 (a0_1 - t273)) < 500000 then (some true) else (none)) else (if (t276 == t274 && (t277 == t275)) = true then (some (decide ((wrap64 (a0_1 - t273)) ≥ 500000))) else (none))) else (none))) else (none)) else (none)) else (none)) = some r := by rw [if_pos rfl] at H; exact H
          clear H
          have H := H1
          clear H1
          by_cases c19 : t273 ≤ a0_1
          · rw [if_pos c19] at H
            have c19b0 : decide (t273 ≤ a0_1) = true := decide_eq_true c19
            clear c19
            by_cases c20 : a0_1 ≤ t275
            · rw [if_pos c20] at H
              have c20b0 : decide (a0_1 ≤ t275) = true := decide_eq_true c20
              clear c20
              by_cases c21 : (Int.tmod t273 1000000) = 0
              · rw [if_pos c21] at H
                have c21b0 : ((Int.tmod t273 1000000) == 0) = true := beq_iff_eq.mpr c21
                have c21b1 : ((Int.tmod t273 1000000) != 0) = false := bne_eq_false_iff_eq.mpr c21
                clear c21
                by_cases c22 : (wrap64 (t275 - t273)) = 0
                · rw [if_pos c22] at H
                  have c22b0 : ((wrap64 (t275 - t273)) == 0) = true := beq_iff_eq.mpr c22
                  have c22b1 : ((wrap64 (t275 - t273)) != 0) = false := bne_eq_false_iff_eq.mpr c22
                  clear c22
                  by_cases c23 : (t272 == a0_0 && (t273 == a0_1)) = true
                  · rw [if_pos c23] at H
                    have c23b0 : (t272 == a0_0 && (t273 == a0_1)) = true := c23
                    (try (have c23b1 : decide (t272 = a0_0 && (t273 == a0_1)) = true := by simpa using c23))
                    (try (have c23b2 : (t272 == a0_0 && (t273 == a0_1)) = true := by simpa using c23))
                    clear c23
                    by_cases c24 : (t276 == t272 && (t277 == t273)) = true
                    · rw [if_pos c24] at H
                      have c24b0 : (t276 == t272 && (t277 == t273)) = true := c24
                      (try (have c24b1 : decide (t276 = t272 && (t277 == t273)) = true := by simpa using c24))
                      (try (have c24b2 : (t276 == t272 && (t277 == t273)) = true := by simpa using c24))
                      clear c24
                      by_cases c25 : (wrap64 (a0_1 - t273)) < 500000
                      · rw [if_pos c25] at H
                        have c25b0 : decide ((wrap64 (a0_1 - t273)) < 500000) = true := decide_eq_true c25
                        clear c25
                        obtain rfl := Option.some.inj H
                        try go_wp2
                        have n0_ := Aside0.mk (blk_drew BK269.out)
                        have n1_ := Aside0.mk (below_drew1 HB.out)
                        clear BK269
                        clear HB
                        have BK269 := n0_
                        have HB := n1_
                        clear n0_ n1_
                        refine start_ (n := 12) (S := fun w' => True) (ds := []) #[false, false, false, false, false, false, false, false, false, false, false, false] (by kernel_rfl) rfl rfl trivial (fun hHeld => ?_); refine with_tabW stencillaw02_XnumNear.tab3 stencillaw02_XnumNear.bits3 (fun HT_ HW_ => ?_)
                        generalize wc.drew = w26 at BK269 HB hHeld ⊢
                        refine inv_at [0, 1, 2, 3, 4, 5, 6, 7, 8, 9, 10, 11] (fun a0_ b a w' => ∃ (gb278 : Nat) (gb279 : Nat) (gb280 : Nat) (m6_ : Value) (m7_ : Value) (m8_ : Value), a = putSel a0_ b [(0, 16, .agg #[.int .i64 a0_0, .int .i64 a0_1]), (1, 17, .agg #[.int .i64 t272, .int .i64 t273]), (2, 18, .agg #[.int .i64 a0_0, .int .i64 a0_1]), (3, 19, .agg #[.int .i64 t274, .int .i64 t275]), (4, 20, .agg #[.int .i64 a0_0, .int .i64 a0_1]), (5, 21, .agg #[.int .i64 t276, .int .i64 t277]), (6, 3, m6_), (7, 4, m7_), (8, 5, m8_)] ∧ (w'.heap[gb269]? = some (.cells #[.int .i64 a0_0, .int .i64 a0_1] 24 (0, 0))) ∧ (Below w.heap.size w w') ∧ (b 6 = true → b 7 = true → gb279 ≠ gb278) ∧ (b 6 = true → b 7 = true → gb278 ≠ gb279) ∧ (b 6 = true → b 8 = true → gb280 ≠ gb278) ∧ (b 6 = true → b 8 = true → gb278 ≠ gb280) ∧ (b 7 = true → b 8 = true → gb280 ≠ gb279) ∧ (b 7 = true → b 8 = true → gb279 ≠ gb280) ∧ (b 6 = true → b 9 = false → w'.heap[gb278]? = some (.cells #[.int .i64 0, .int .i64 0] 24 (0, 0))) ∧ (b 6 = true → w.heap.size ≤ gb278) ∧ (b 6 = true → w.heap.size ≤ gb278) ∧ (b 6 = true → gb269 ≠ gb278) ∧ (b 6 = true → gb278 ≠ gb269) ∧ (b 7 = true → b 10 = false → w'.heap[gb279]? = some (.cells #[.int .i64 0, .int .i64 0] 24 (0, 0))) ∧ (b 7 = true → w.heap.size ≤ gb279) ∧ (b 7 = true → w.heap.size ≤ gb279) ∧ (b 7 = true → gb269 ≠ gb279) ∧ (b 7 = true → gb279 ≠ gb269) ∧ (b 8 = true → b 11 = false → w'.heap[gb280]? = some (.cells #[.int .i64 0, .int .i64 0] 24 (0, 0))) ∧ (b 8 = true → w.heap.size ≤ gb280) ∧ (b 8 = true → w.heap.size ≤ gb280) ∧ (b 8 = true → gb269 ≠ gb280) ∧ (b 8 = true → gb280 ≠ gb269) ∧ (b 9 = true → w'.heap[gb278]? = some (.cells #[.int .i64 t272, .int .i64 t273] 24 (0, 0))) ∧ (b 10 = true → w'.heap[gb279]? = some (.cells #[.int .i64 t274, .int .i64 t275] 24 (0, 0))) ∧ (b 11 = true → w'.heap[gb280]? = some (.cells #[.int .i64 t276, .int .i64 t277] 24 (0, 0))) ∧ (b 6 = true → (m6_ : Value) = .pointer (some ⟨gb278, 0, none⟩)) ∧ (b 7 = true → (m7_ : Value) = .pointer (some ⟨gb279, 0, none⟩)) ∧ (b 8 = true → (m8_ : Value) = .pointer (some ⟨gb280, 0, none⟩))) HT_.out HW_.out (by kernel_rfl) (by kernel_rfl) ?_ ?_ ?_
                        · exact ⟨0, 0, 0, .bool false, .bool false, .bool false, by simp only [putSel, Bool.false_eq_true, if_false], BK269.out, HB.out, fun h_ => absurd h_ (by decide), fun h_ => absurd h_ (by decide), fun h_ => absurd h_ (by decide), fun h_ => absurd h_ (by decide), fun h_ => absurd h_ (by decide), fun h_ => absurd h_ (by decide), fun h_ => absurd h_ (by decide), fun h_ => absurd h_ (by decide), fun h_ => absurd h_ (by decide), fun h_ => absurd h_ (by decide), fun h_ => absurd h_ (by decide), fun h_ => absurd h_ (by decide), fun h_ => absurd h_ (by decide), fun h_ => absurd h_ (by decide), fun h_ => absurd h_ (by decide), fun h_ => absurd h_ (by decide), fun h_ => absurd h_ (by decide), fun h_ => absurd h_ (by decide), fun h_ => absurd h_ (by decide), fun h_ => absurd h_ (by decide), fun h_ => absurd h_ (by decide), fun h_ => absurd h_ (by decide), fun h_ => absurd h_ (by decide), fun h_ => absurd h_ (by decide), fun h_ => absurd h_ (by decide), fun h_ => absurd h_ (by decide), fun h_ => absurd h_ (by decide)⟩
                        · skip
                          clear BK269 HB
                          refine steps_cons ?_ ?_
                          · rintro b a w' ⟨gb278, gb279, gb280, m6_, m7_, m8_, ha, Q0, Q13, Q21, Q18, Q24, Q19, Q25, Q22, Q1, Q10, Q7, Q14, Q17, Q3, Q11, Q8, Q15, Q20, Q5, Q12, Q9, Q16, Q23, Q2, Q4, Q6, Q26, Q27, Q28⟩ hb_ hon hoff
                            refine ⟨_, rfl, fun K hK => ?_⟩
                            have e1 : a.tmps[1]? = some (.pointer (some ⟨gb269, 0, none⟩)) := by rw [ha]; exact (putSel_off rfl).trans rfl
                            replace ha := Aside0.mk ha
                            have BK269 := Aside0.mk Q0
                            have HB := Aside0.mk Q13
                            have hc0_ : w'.cell? ⟨gb269, 0, none⟩ = some (.int .i64 a0_0) := (blk_cell BK269.out 0).trans rfl
                            have hc1_ : w'.cell? ⟨gb269, 1, none⟩ = some (.int .i64 a0_1) := (blk_cell BK269.out 1).trans rfl
                            refine value_ (w1 := w') (v := .agg #[.int .i64 a0_0, .int .i64 a0_1]) (by rfl) rfl ?_ ?_
                            · go_simp
                              (try simp only [i64_w])
                              try rfl
                            refine hK.out _ _ ⟨gb278, gb279, gb280, m6_, m7_, m8_, (by rw [ha.out]; exact putSel_upk 0 hb_ rfl rfl rfl), Q0, Q13, Q21, Q18, Q24, Q19, Q25, Q22, Q1, Q10, Q7, Q14, Q17, Q3, Q11, Q8, Q15, Q20, Q5, Q12, Q9, Q16, Q23, fun h0_ => absurd ((hoff 9 (by kernel_rfl)).symm.trans h0_) (by decide), fun h0_ => absurd ((hoff 10 (by kernel_rfl)).symm.trans h0_) (by decide), fun h0_ => absurd ((hoff 11 (by kernel_rfl)).symm.trans h0_) (by decide), Q26, Q27, Q28⟩
                          refine steps_cons ?_ ?_
                          · rintro b a w' ⟨gb278, gb279, gb280, m6_, m7_, m8_, ha, Q0, Q13, Q21, Q18, Q24, Q19, Q25, Q22, Q1, Q10, Q7, Q14, Q17, Q3, Q11, Q8, Q15, Q20, Q5, Q12, Q9, Q16, Q23, Q2, Q4, Q6, Q26, Q27, Q28⟩ hb_ hon hoff
                            refine ⟨_, rfl, fun K hK => ?_⟩
                            have e16 : a.tmps[16]? = some (.agg #[.int .i64 a0_0, .int .i64 a0_1]) := by rw [ha]; exact putSel_on (e := (0, 16, .agg #[.int .i64 a0_0, .int .i64 a0_1])) 0 rfl rfl (hon 0 (by kernel_rfl)) rfl
                            replace ha := Aside0.mk ha
                            have BK269 := Aside0.mk Q0
                            have HB := Aside0.mk Q13
                            refine goes_ Tryd.func8 (by kernel_rfl) rfl #[.agg #[.int .i64 a0_0, .int .i64 a0_1]] (by rfl) rfl rfl (by first | (simp only [List.map_toArray, List.map_cons, List.map_nil, Act.eval, Array.getD_eq_getD_getElem?, Option.getD_some, e16]; done) | (simp only [List.map_toArray, List.map_cons, List.map_nil, Act.eval, Array.getD_eq_getD_getElem?, Option.getD_some, e16]; rfl)) ?_
                            with_reducible refine (xnum_Floor.calls a0_0 a0_1 t272 t273 _ ?side1 A14.out).mono ?_
                            (case side1 => first | exact HLD | exact Laid.below HLD (by repeat (first | (with_reducible first | exact HB.out | apply below_alloc | apply pw_below_drewN | apply below_drew1 | refine below_set ?_ GE269.out) | exact HB.out)))
                            rintro e w27 ⟨rfl, hb⟩
                            refine ⟨_, rfl, ?_⟩
                            have n0_ := Aside0.mk (blk_below (g := gb269) (o := .cells #[.int .i64 a0_0, .int .i64 a0_1] 24 (0, 0)) (by (with_reducible repeat (first | refine blk_drewN ?_ _ | refine blk_drew ?_ | refine blk_alloc ?_ _)); exact BK269.out) hb)
                            have n1_ := Aside0.mk (below_step (by repeat (first | (with_reducible first | exact HB.out | apply below_alloc | apply pw_below_drewN | apply below_drew1 | refine below_set ?_ GE269.out) | exact HB.out)) hb)
                            have z_BK278 := fun (h0_ : b 6 = true) (h1_ : b 9 = false) => (show w27.heap[gb278]? = some (.cells #[.int .i64 0, .int .i64 0] 24 (0, 0)) from by first | exact (blk_below (g := gb278) (o := .cells #[.int .i64 0, .int .i64 0] 24 (0, 0)) (by (with_reducible repeat (first | refine blk_drewN ?_ _ | refine blk_drew ?_ | refine blk_alloc ?_ _)); exact (Q1 h0_ h1_)) hb))
                            have z_BK279 := fun (h0_ : b 7 = true) (h1_ : b 10 = false) => (show w27.heap[gb279]? = some (.cells #[.int .i64 0, .int .i64 0] 24 (0, 0)) from by first | exact (blk_below (g := gb279) (o := .cells #[.int .i64 0, .int .i64 0] 24 (0, 0)) (by (with_reducible repeat (first | refine blk_drewN ?_ _ | refine blk_drew ?_ | refine blk_alloc ?_ _)); exact (Q3 h0_ h1_)) hb))
                            have z_BK280 := fun (h0_ : b 8 = true) (h1_ : b 11 = false) => (show w27.heap[gb280]? = some (.cells #[.int .i64 0, .int .i64 0] 24 (0, 0)) from by first | exact (blk_below (g := gb280) (o := .cells #[.int .i64 0, .int .i64 0] 24 (0, 0)) (by (with_reducible repeat (first | refine blk_drewN ?_ _ | refine blk_drew ?_ | refine blk_alloc ?_ _)); exact (Q5 h0_ h1_)) hb))
                            clear BK269
                            clear HB
                            have BK269 := n0_
                            have HB := n1_
                            clear n0_ n1_
                            (try clear hb)
                            (try clear hb2)
                            (try clear hk)
                            (try clear hi)
                            refine hK.out _ _ ⟨gb278, gb279, gb280, m6_, m7_, m8_, (by rw [ha.out]; exact putSel_upk 1 hb_ rfl rfl rfl), (by (with_reducible repeat (first | refine blk_drewN ?_ _ | refine blk_drew ?_ | refine blk_alloc ?_ _)); exact BK269.out), (by repeat (first | (with_reducible first | exact HB.out | apply below_alloc | apply pw_below_drewN | apply below_drew1 | refine below_set ?_ GE269.out) | exact HB.out)), Q21, Q18, Q24, Q19, Q25, Q22, z_BK278, Q10, Q7, Q14, Q17, z_BK279, Q11, Q8, Q15, Q20, z_BK280, Q12, Q9, Q16, Q23, fun h0_ => absurd ((hoff 9 (by kernel_rfl)).symm.trans h0_) (by decide), fun h0_ => absurd ((hoff 10 (by kernel_rfl)).symm.trans h0_) (by decide), fun h0_ => absurd ((hoff 11 (by kernel_rfl)).symm.trans h0_) (by decide), Q26, Q27, Q28⟩
                          refine steps_cons ?_ ?_
                          · rintro b a w' ⟨gb278, gb279, gb280, m6_, m7_, m8_, ha, Q0, Q13, Q21, Q18, Q24, Q19, Q25, Q22, Q1, Q10, Q7, Q14, Q17, Q3, Q11, Q8, Q15, Q20, Q5, Q12, Q9, Q16, Q23, Q2, Q4, Q6, Q26, Q27, Q28⟩ hb_ hon hoff
                            refine ⟨_, rfl, fun K hK => ?_⟩
                            have e1 : a.tmps[1]? = some (.pointer (some ⟨gb269, 0, none⟩)) := by rw [ha]; exact (putSel_off rfl).trans rfl
                            replace ha := Aside0.mk ha
                            have BK269 := Aside0.mk Q0
                            have HB := Aside0.mk Q13
                            have hc0_ : w'.cell? ⟨gb269, 0, none⟩ = some (.int .i64 a0_0) := (blk_cell BK269.out 0).trans rfl
                            have hc1_ : w'.cell? ⟨gb269, 1, none⟩ = some (.int .i64 a0_1) := (blk_cell BK269.out 1).trans rfl
                            refine value_ (w1 := w') (v := .agg #[.int .i64 a0_0, .int .i64 a0_1]) (by rfl) rfl ?_ ?_
                            · go_simp
                              (try simp only [i64_w])
                              try rfl
                            refine hK.out _ _ ⟨gb278, gb279, gb280, m6_, m7_, m8_, (by rw [ha.out]; exact putSel_upk 2 hb_ rfl rfl rfl), Q0, Q13, Q21, Q18, Q24, Q19, Q25, Q22, Q1, Q10, Q7, Q14, Q17, Q3, Q11, Q8, Q15, Q20, Q5, Q12, Q9, Q16, Q23, fun h0_ => absurd ((hoff 9 (by kernel_rfl)).symm.trans h0_) (by decide), fun h0_ => absurd ((hoff 10 (by kernel_rfl)).symm.trans h0_) (by decide), fun h0_ => absurd ((hoff 11 (by kernel_rfl)).symm.trans h0_) (by decide), Q26, Q27, Q28⟩
                          refine steps_cons ?_ ?_
                          · rintro b a w' ⟨gb278, gb279, gb280, m6_, m7_, m8_, ha, Q0, Q13, Q21, Q18, Q24, Q19, Q25, Q22, Q1, Q10, Q7, Q14, Q17, Q3, Q11, Q8, Q15, Q20, Q5, Q12, Q9, Q16, Q23, Q2, Q4, Q6, Q26, Q27, Q28⟩ hb_ hon hoff
                            refine ⟨_, rfl, fun K hK => ?_⟩
                            have e18 : a.tmps[18]? = some (.agg #[.int .i64 a0_0, .int .i64 a0_1]) := by rw [ha]; exact putSel_on (e := (2, 18, .agg #[.int .i64 a0_0, .int .i64 a0_1])) 2 rfl rfl (hon 2 (by kernel_rfl)) rfl
                            replace ha := Aside0.mk ha
                            have BK269 := Aside0.mk Q0
                            have HB := Aside0.mk Q13
                            refine goes_ Tryd.func9 (by kernel_rfl) rfl #[.agg #[.int .i64 a0_0, .int .i64 a0_1]] (by rfl) rfl rfl (by first | (simp only [List.map_toArray, List.map_cons, List.map_nil, Act.eval, Array.getD_eq_getD_getElem?, Option.getD_some, e18]; done) | (simp only [List.map_toArray, List.map_cons, List.map_nil, Act.eval, Array.getD_eq_getD_getElem?, Option.getD_some, e18]; rfl)) ?_
                            with_reducible refine (xnum_Ceiling.calls kj1 a0_0 a0_1 t274 t275 _ ?side1 A15.out).mono ?_
                            (case side1 => first | exact HLD | exact Laid.below HLD (by repeat (first | (with_reducible first | exact HB.out | apply below_alloc | apply pw_below_drewN | apply below_drew1 | refine below_set ?_ GE269.out) | exact HB.out)))
                            rintro e w29 ⟨rfl, hb⟩
                            refine ⟨_, rfl, ?_⟩
                            have n0_ := Aside0.mk (blk_below (g := gb269) (o := .cells #[.int .i64 a0_0, .int .i64 a0_1] 24 (0, 0)) (by (with_reducible repeat (first | refine blk_drewN ?_ _ | refine blk_drew ?_ | refine blk_alloc ?_ _)); exact BK269.out) hb)
                            have n1_ := Aside0.mk (below_step (by repeat (first | (with_reducible first | exact HB.out | apply below_alloc | apply pw_below_drewN | apply below_drew1 | refine below_set ?_ GE269.out) | exact HB.out)) hb)
                            have z_BK278 := fun (h0_ : b 6 = true) (h1_ : b 9 = false) => (show w29.heap[gb278]? = some (.cells #[.int .i64 0, .int .i64 0] 24 (0, 0)) from by first | exact (blk_below (g := gb278) (o := .cells #[.int .i64 0, .int .i64 0] 24 (0, 0)) (by (with_reducible repeat (first | refine blk_drewN ?_ _ | refine blk_drew ?_ | refine blk_alloc ?_ _)); exact (Q1 h0_ h1_)) hb))
                            have z_BK279 := fun (h0_ : b 7 = true) (h1_ : b 10 = false) => (show w29.heap[gb279]? = some (.cells #[.int .i64 0, .int .i64 0] 24 (0, 0)) from by first | exact (blk_below (g := gb279) (o := .cells #[.int .i64 0, .int .i64 0] 24 (0, 0)) (by (with_reducible repeat (first | refine blk_drewN ?_ _ | refine blk_drew ?_ | refine blk_alloc ?_ _)); exact (Q3 h0_ h1_)) hb))
                            have z_BK280 := fun (h0_ : b 8 = true) (h1_ : b 11 = false) => (show w29.heap[gb280]? = some (.cells #[.int .i64 0, .int .i64 0] 24 (0, 0)) from by first | exact (blk_below (g := gb280) (o := .cells #[.int .i64 0, .int .i64 0] 24 (0, 0)) (by (with_reducible repeat (first | refine blk_drewN ?_ _ | refine blk_drew ?_ | refine blk_alloc ?_ _)); exact (Q5 h0_ h1_)) hb))
                            clear BK269
                            clear HB
                            have BK269 := n0_
                            have HB := n1_
                            clear n0_ n1_
                            (try clear hb)
                            (try clear hb2)
                            (try clear hk)
                            (try clear hi)
                            refine hK.out _ _ ⟨gb278, gb279, gb280, m6_, m7_, m8_, (by rw [ha.out]; exact putSel_upk 3 hb_ rfl rfl rfl), (by (with_reducible repeat (first | refine blk_drewN ?_ _ | refine blk_drew ?_ | refine blk_alloc ?_ _)); exact BK269.out), (by repeat (first | (with_reducible first | exact HB.out | apply below_alloc | apply pw_below_drewN | apply below_drew1 | refine below_set ?_ GE269.out) | exact HB.out)), Q21, Q18, Q24, Q19, Q25, Q22, z_BK278, Q10, Q7, Q14, Q17, z_BK279, Q11, Q8, Q15, Q20, z_BK280, Q12, Q9, Q16, Q23, fun h0_ => absurd ((hoff 9 (by kernel_rfl)).symm.trans h0_) (by decide), fun h0_ => absurd ((hoff 10 (by kernel_rfl)).symm.trans h0_) (by decide), fun h0_ => absurd ((hoff 11 (by kernel_rfl)).symm.trans h0_) (by decide), Q26, Q27, Q28⟩
                          refine steps_cons ?_ ?_
                          · rintro b a w' ⟨gb278, gb279, gb280, m6_, m7_, m8_, ha, Q0, Q13, Q21, Q18, Q24, Q19, Q25, Q22, Q1, Q10, Q7, Q14, Q17, Q3, Q11, Q8, Q15, Q20, Q5, Q12, Q9, Q16, Q23, Q2, Q4, Q6, Q26, Q27, Q28⟩ hb_ hon hoff
                            refine ⟨_, rfl, fun K hK => ?_⟩
                            have e1 : a.tmps[1]? = some (.pointer (some ⟨gb269, 0, none⟩)) := by rw [ha]; exact (putSel_off rfl).trans rfl
                            replace ha := Aside0.mk ha
                            have BK269 := Aside0.mk Q0
                            have HB := Aside0.mk Q13
                            have hc0_ : w'.cell? ⟨gb269, 0, none⟩ = some (.int .i64 a0_0) := (blk_cell BK269.out 0).trans rfl
                            have hc1_ : w'.cell? ⟨gb269, 1, none⟩ = some (.int .i64 a0_1) := (blk_cell BK269.out 1).trans rfl
                            refine value_ (w1 := w') (v := .agg #[.int .i64 a0_0, .int .i64 a0_1]) (by rfl) rfl ?_ ?_
                            · go_simp
                              (try simp only [i64_w])
                              try rfl
                            refine hK.out _ _ ⟨gb278, gb279, gb280, m6_, m7_, m8_, (by rw [ha.out]; exact putSel_upk 4 hb_ rfl rfl rfl), Q0, Q13, Q21, Q18, Q24, Q19, Q25, Q22, Q1, Q10, Q7, Q14, Q17, Q3, Q11, Q8, Q15, Q20, Q5, Q12, Q9, Q16, Q23, fun h0_ => absurd ((hoff 9 (by kernel_rfl)).symm.trans h0_) (by decide), fun h0_ => absurd ((hoff 10 (by kernel_rfl)).symm.trans h0_) (by decide), fun h0_ => absurd ((hoff 11 (by kernel_rfl)).symm.trans h0_) (by decide), Q26, Q27, Q28⟩
                          refine steps_cons ?_ ?_
                          · rintro b a w' ⟨gb278, gb279, gb280, m6_, m7_, m8_, ha, Q0, Q13, Q21, Q18, Q24, Q19, Q25, Q22, Q1, Q10, Q7, Q14, Q17, Q3, Q11, Q8, Q15, Q20, Q5, Q12, Q9, Q16, Q23, Q2, Q4, Q6, Q26, Q27, Q28⟩ hb_ hon hoff
                            refine ⟨_, rfl, fun K hK => ?_⟩
                            have e20 : a.tmps[20]? = some (.agg #[.int .i64 a0_0, .int .i64 a0_1]) := by rw [ha]; exact putSel_on (e := (4, 20, .agg #[.int .i64 a0_0, .int .i64 a0_1])) 4 rfl rfl (hon 4 (by kernel_rfl)) rfl
                            replace ha := Aside0.mk ha
                            have BK269 := Aside0.mk Q0
                            have HB := Aside0.mk Q13
                            refine goes_ Tryd.func10 (by kernel_rfl) rfl #[.agg #[.int .i64 a0_0, .int .i64 a0_1]] (by rfl) rfl rfl (by first | (simp only [List.map_toArray, List.map_cons, List.map_nil, Act.eval, Array.getD_eq_getD_getElem?, Option.getD_some, e20]; done) | (simp only [List.map_toArray, List.map_cons, List.map_nil, Act.eval, Array.getD_eq_getD_getElem?, Option.getD_some, e20]; rfl)) ?_
                            with_reducible refine (xnum_Round.calls a0_0 a0_1 t276 t277 _ ?side1 A16.out).mono ?_
                            (case side1 => first | exact HLD | exact Laid.below HLD (by repeat (first | (with_reducible first | exact HB.out | apply below_alloc | apply pw_below_drewN | apply below_drew1 | refine below_set ?_ GE269.out) | exact HB.out)))
                            rintro e w30 ⟨rfl, hb⟩
                            refine ⟨_, rfl, ?_⟩
                            have n0_ := Aside0.mk (blk_below (g := gb269) (o := .cells #[.int .i64 a0_0, .int .i64 a0_1] 24 (0, 0)) (by (with_reducible repeat (first | refine blk_drewN ?_ _ | refine blk_drew ?_ | refine blk_alloc ?_ _)); exact BK269.out) hb)
                            have n1_ := Aside0.mk (below_step (by repeat (first | (with_reducible first | exact HB.out | apply below_alloc | apply pw_below_drewN | apply below_drew1 | refine below_set ?_ GE269.out) | exact HB.out)) hb)
                            have z_BK278 := fun (h0_ : b 6 = true) (h1_ : b 9 = false) => (show w30.heap[gb278]? = some (.cells #[.int .i64 0, .int .i64 0] 24 (0, 0)) from by first | exact (blk_below (g := gb278) (o := .cells #[.int .i64 0, .int .i64 0] 24 (0, 0)) (by (with_reducible repeat (first | refine blk_drewN ?_ _ | refine blk_drew ?_ | refine blk_alloc ?_ _)); exact (Q1 h0_ h1_)) hb))
                            have z_BK279 := fun (h0_ : b 7 = true) (h1_ : b 10 = false) => (show w30.heap[gb279]? = some (.cells #[.int .i64 0, .int .i64 0] 24 (0, 0)) from by first | exact (blk_below (g := gb279) (o := .cells #[.int .i64 0, .int .i64 0] 24 (0, 0)) (by (with_reducible repeat (first | refine blk_drewN ?_ _ | refine blk_drew ?_ | refine blk_alloc ?_ _)); exact (Q3 h0_ h1_)) hb))
                            have z_BK280 := fun (h0_ : b 8 = true) (h1_ : b 11 = false) => (show w30.heap[gb280]? = some (.cells #[.int .i64 0, .int .i64 0] 24 (0, 0)) from by first | exact (blk_below (g := gb280) (o := .cells #[.int .i64 0, .int .i64 0] 24 (0, 0)) (by (with_reducible repeat (first | refine blk_drewN ?_ _ | refine blk_drew ?_ | refine blk_alloc ?_ _)); exact (Q5 h0_ h1_)) hb))
                            clear BK269
                            clear HB
                            have BK269 := n0_
                            have HB := n1_
                            clear n0_ n1_
                            (try clear hb)
                            (try clear hb2)
                            (try clear hk)
                            (try clear hi)
                            refine hK.out _ _ ⟨gb278, gb279, gb280, m6_, m7_, m8_, (by rw [ha.out]; exact putSel_upk 5 hb_ rfl rfl rfl), (by (with_reducible repeat (first | refine blk_drewN ?_ _ | refine blk_drew ?_ | refine blk_alloc ?_ _)); exact BK269.out), (by repeat (first | (with_reducible first | exact HB.out | apply below_alloc | apply pw_below_drewN | apply below_drew1 | refine below_set ?_ GE269.out) | exact HB.out)), Q21, Q18, Q24, Q19, Q25, Q22, z_BK278, Q10, Q7, Q14, Q17, z_BK279, Q11, Q8, Q15, Q20, z_BK280, Q12, Q9, Q16, Q23, fun h0_ => absurd ((hoff 9 (by kernel_rfl)).symm.trans h0_) (by decide), fun h0_ => absurd ((hoff 10 (by kernel_rfl)).symm.trans h0_) (by decide), fun h0_ => absurd ((hoff 11 (by kernel_rfl)).symm.trans h0_) (by decide), Q26, Q27, Q28⟩
                          refine steps_cons ?_ ?_
                          · rintro b a w' ⟨gb278, gb279, gb280, m6_, m7_, m8_, ha, Q0, Q13, Q21, Q18, Q24, Q19, Q25, Q22, Q1, Q10, Q7, Q14, Q17, Q3, Q11, Q8, Q15, Q20, Q5, Q12, Q9, Q16, Q23, Q2, Q4, Q6, Q26, Q27, Q28⟩ hb_ hon hoff
                            refine ⟨_, rfl, fun K hK => ?_⟩
                            replace ha := Aside0.mk ha
                            have BK269 := Aside0.mk Q0
                            have HB := Aside0.mk Q13
                            refine box_step ?hg (N := 3) ?hd (cs := #[.int .i64 0, .int .i64 0]) (t := 24) ?hr ?_; (case hd => rfl); (case hg => rfl); (case hr => first | (go_simp; done) | (go_simp; rfl))
                            intro gb278 hg w27 hbox hb
                            have n0_ := Aside0.mk (blk_below (g := gb269) (o := .cells #[.int .i64 a0_0, .int .i64 a0_1] 24 (0, 0)) (by (with_reducible repeat (first | refine blk_drewN ?_ _ | refine blk_drew ?_ | refine blk_alloc ?_ _)); exact BK269.out) hb)
                            have n1_ := Aside0.mk (below_step (by repeat (first | (with_reducible first | exact HB.out | apply below_alloc | apply pw_below_drewN | apply below_drew1 | refine below_set ?_ GE269.out) | exact HB.out)) hb)
                            have n2_ := Aside0.mk (hbox)
                            have n3_ := Aside0.mk ((by rw [hg]; exact (below_size (by repeat (first | (with_reducible first | exact HB.out | apply below_alloc | apply pw_below_drewN | apply below_drew1 | refine below_set ?_ GE269.out) | exact HB.out))) : w.heap.size ≤ gb278))
                            have n4_ := Aside0.mk ((by rw [hg]; exact (below_size (by repeat (first | (with_reducible first | exact HB.out | apply below_alloc | apply pw_below_drewN | apply below_drew1 | refine below_set ?_ GE269.out) | exact HB.out))) : w.heap.size ≤ gb278))
                            have n5_ := Aside0.mk ((by rw [hg]; exact Nat.ne_of_lt (blk_lt (g := gb269) (o := .cells #[.int .i64 a0_0, .int .i64 a0_1] 24 (0, 0)) (by (with_reducible repeat (first | refine blk_drewN ?_ _ | refine blk_drew ?_ | refine blk_alloc ?_ _)); exact BK269.out)) : gb269 ≠ gb278))
                            have n6_ := Aside0.mk ((by rw [hg]; exact Nat.ne_of_gt (blk_lt (g := gb269) (o := .cells #[.int .i64 a0_0, .int .i64 a0_1] 24 (0, 0)) (by (with_reducible repeat (first | refine blk_drewN ?_ _ | refine blk_drew ?_ | refine blk_alloc ?_ _)); exact BK269.out)) : gb278 ≠ gb269))
                            have z_NB279_278 := fun (h0_ : up b 6 6 = true) (h1_ : up b 6 7 = true) => (show gb279 ≠ gb278 from ((by rw [hg]; exact Nat.ne_of_lt (blk_lt (g := gb279) (o := .cells #[.int .i64 0, .int .i64 0] 24 (0, 0)) (by (with_reducible repeat (first | refine blk_drewN ?_ _ | refine blk_drew ?_ | refine blk_alloc ?_ _)); exact (Q3 (show b 7 = true from h1_) (hoff 10 (by kernel_rfl))))) : gb279 ≠ gb278)))
                            have z_NB278_279 := fun (h0_ : up b 6 6 = true) (h1_ : up b 6 7 = true) => (show gb278 ≠ gb279 from ((by rw [hg]; exact Nat.ne_of_gt (blk_lt (g := gb279) (o := .cells #[.int .i64 0, .int .i64 0] 24 (0, 0)) (by (with_reducible repeat (first | refine blk_drewN ?_ _ | refine blk_drew ?_ | refine blk_alloc ?_ _)); exact (Q3 (show b 7 = true from h1_) (hoff 10 (by kernel_rfl))))) : gb278 ≠ gb279)))
                            have z_NB280_278 := fun (h0_ : up b 6 6 = true) (h1_ : up b 6 8 = true) => (show gb280 ≠ gb278 from ((by rw [hg]; exact Nat.ne_of_lt (blk_lt (g := gb280) (o := .cells #[.int .i64 0, .int .i64 0] 24 (0, 0)) (by (with_reducible repeat (first | refine blk_drewN ?_ _ | refine blk_drew ?_ | refine blk_alloc ?_ _)); exact (Q5 (show b 8 = true from h1_) (hoff 11 (by kernel_rfl))))) : gb280 ≠ gb278)))
                            have z_NB278_280 := fun (h0_ : up b 6 6 = true) (h1_ : up b 6 8 = true) => (show gb278 ≠ gb280 from ((by rw [hg]; exact Nat.ne_of_gt (blk_lt (g := gb280) (o := .cells #[.int .i64 0, .int .i64 0] 24 (0, 0)) (by (with_reducible repeat (first | refine blk_drewN ?_ _ | refine blk_drew ?_ | refine blk_alloc ?_ _)); exact (Q5 (show b 8 = true from h1_) (hoff 11 (by kernel_rfl))))) : gb278 ≠ gb280)))
                            have z_BK279 := fun (h0_ : b 7 = true) (h1_ : b 10 = false) => (show w27.heap[gb279]? = some (.cells #[.int .i64 0, .int .i64 0] 24 (0, 0)) from by first | exact (blk_below (g := gb279) (o := .cells #[.int .i64 0, .int .i64 0] 24 (0, 0)) (by (with_reducible repeat (first | refine blk_drewN ?_ _ | refine blk_drew ?_ | refine blk_alloc ?_ _)); exact (Q3 h0_ h1_)) hb))
                            have z_BK280 := fun (h0_ : b 8 = true) (h1_ : b 11 = false) => (show w27.heap[gb280]? = some (.cells #[.int .i64 0, .int .i64 0] 24 (0, 0)) from by first | exact (blk_below (g := gb280) (o := .cells #[.int .i64 0, .int .i64 0] 24 (0, 0)) (by (with_reducible repeat (first | refine blk_drewN ?_ _ | refine blk_drew ?_ | refine blk_alloc ?_ _)); exact (Q5 h0_ h1_)) hb))
                            clear BK269
                            clear HB
                            have BK269 := n0_
                            have HB := n1_
                            have BK278 := n2_
                            have GW278 := n3_
                            have GE278 := n4_
                            have NB269_278 := n5_
                            have NB278_269 := n6_
                            clear n0_ n1_ n2_ n3_ n4_ n5_ n6_
                            clear hb hbox hg
                            refine hK.out _ _ ⟨gb278, gb279, gb280, (.pointer (some ⟨gb278, 0, none⟩)), m7_, m8_, (by rw [ha.out]; exact putSel_upk 6 hb_ rfl rfl rfl), (by (with_reducible repeat (first | refine blk_drewN ?_ _ | refine blk_drew ?_ | refine blk_alloc ?_ _)); exact BK269.out), (by repeat (first | (with_reducible first | exact HB.out | apply below_alloc | apply pw_below_drewN | apply below_drew1 | refine below_set ?_ GE269.out | refine below_set ?_ GE278.out) | exact HB.out)), @z_NB279_278, @z_NB278_279, @z_NB280_278, @z_NB278_280, Q25, Q22, fun _ _ => (by (with_reducible repeat (first | refine blk_drewN ?_ _ | refine blk_drew ?_ | refine blk_alloc ?_ _)); exact BK278.out), fun _ => GW278.out, fun _ => GE278.out, fun _ => NB269_278.out, fun _ => NB278_269.out, z_BK279, Q11, Q8, Q15, Q20, z_BK280, Q12, Q9, Q16, Q23, fun h0_ => absurd ((hoff 9 (by kernel_rfl)).symm.trans h0_) (by decide), fun h0_ => absurd ((hoff 10 (by kernel_rfl)).symm.trans h0_) (by decide), fun h0_ => absurd ((hoff 11 (by kernel_rfl)).symm.trans h0_) (by decide), fun _ => rfl, Q27, Q28⟩
                          refine steps_cons ?_ ?_
                          · rintro b a w' ⟨gb278, gb279, gb280, m6_, m7_, m8_, ha, Q0, Q13, Q21, Q18, Q24, Q19, Q25, Q22, Q1, Q10, Q7, Q14, Q17, Q3, Q11, Q8, Q15, Q20, Q5, Q12, Q9, Q16, Q23, Q2, Q4, Q6, Q26, Q27, Q28⟩ hb_ hon hoff
                            refine ⟨_, rfl, fun K hK => ?_⟩
                            replace ha := Aside0.mk ha
                            have BK269 := Aside0.mk Q0
                            have HB := Aside0.mk Q13
                            refine box_step ?hg (N := 4) ?hd (cs := #[.int .i64 0, .int .i64 0]) (t := 24) ?hr ?_; (case hd => rfl); (case hg => rfl); (case hr => first | (go_simp; done) | (go_simp; rfl))
                            intro gb279 hg w27 hbox hb
                            have n0_ := Aside0.mk (blk_below (g := gb269) (o := .cells #[.int .i64 a0_0, .int .i64 a0_1] 24 (0, 0)) (by (with_reducible repeat (first | refine blk_drewN ?_ _ | refine blk_drew ?_ | refine blk_alloc ?_ _)); exact BK269.out) hb)
                            have n1_ := Aside0.mk (below_step (by repeat (first | (with_reducible first | exact HB.out | apply below_alloc | apply pw_below_drewN | apply below_drew1 | refine below_set ?_ GE269.out) | exact HB.out)) hb)
                            have n2_ := Aside0.mk (hbox)
                            have n3_ := Aside0.mk ((by rw [hg]; exact (below_size (by repeat (first | (with_reducible first | exact HB.out | apply below_alloc | apply pw_below_drewN | apply below_drew1 | refine below_set ?_ GE269.out) | exact HB.out))) : w.heap.size ≤ gb279))
                            have n4_ := Aside0.mk ((by rw [hg]; exact (below_size (by repeat (first | (with_reducible first | exact HB.out | apply below_alloc | apply pw_below_drewN | apply below_drew1 | refine below_set ?_ GE269.out) | exact HB.out))) : w.heap.size ≤ gb279))
                            have n5_ := Aside0.mk ((by rw [hg]; exact Nat.ne_of_lt (blk_lt (g := gb269) (o := .cells #[.int .i64 a0_0, .int .i64 a0_1] 24 (0, 0)) (by (with_reducible repeat (first | refine blk_drewN ?_ _ | refine blk_drew ?_ | refine blk_alloc ?_ _)); exact BK269.out)) : gb269 ≠ gb279))
                            have n6_ := Aside0.mk ((by rw [hg]; exact Nat.ne_of_gt (blk_lt (g := gb269) (o := .cells #[.int .i64 a0_0, .int .i64 a0_1] 24 (0, 0)) (by (with_reducible repeat (first | refine blk_drewN ?_ _ | refine blk_drew ?_ | refine blk_alloc ?_ _)); exact BK269.out)) : gb279 ≠ gb269))
                            have z_NB279_278 := fun (h0_ : up b 7 6 = true) (h1_ : up b 7 7 = true) => (show gb279 ≠ gb278 from ((by rw [hg]; exact Nat.ne_of_gt (blk_lt (g := gb278) (o := .cells #[.int .i64 0, .int .i64 0] 24 (0, 0)) (by (with_reducible repeat (first | refine blk_drewN ?_ _ | refine blk_drew ?_ | refine blk_alloc ?_ _)); exact (Q1 (show b 6 = true from h0_) (hoff 9 (by kernel_rfl))))) : gb279 ≠ gb278)))
                            have z_NB278_279 := fun (h0_ : up b 7 6 = true) (h1_ : up b 7 7 = true) => (show gb278 ≠ gb279 from ((by rw [hg]; exact Nat.ne_of_lt (blk_lt (g := gb278) (o := .cells #[.int .i64 0, .int .i64 0] 24 (0, 0)) (by (with_reducible repeat (first | refine blk_drewN ?_ _ | refine blk_drew ?_ | refine blk_alloc ?_ _)); exact (Q1 (show b 6 = true from h0_) (hoff 9 (by kernel_rfl))))) : gb278 ≠ gb279)))
                            have z_NB280_279 := fun (h0_ : up b 7 7 = true) (h1_ : up b 7 8 = true) => (show gb280 ≠ gb279 from ((by rw [hg]; exact Nat.ne_of_lt (blk_lt (g := gb280) (o := .cells #[.int .i64 0, .int .i64 0] 24 (0, 0)) (by (with_reducible repeat (first | refine blk_drewN ?_ _ | refine blk_drew ?_ | refine blk_alloc ?_ _)); exact (Q5 (show b 8 = true from h1_) (hoff 11 (by kernel_rfl))))) : gb280 ≠ gb279)))
                            have z_NB279_280 := fun (h0_ : up b 7 7 = true) (h1_ : up b 7 8 = true) => (show gb279 ≠ gb280 from ((by rw [hg]; exact Nat.ne_of_gt (blk_lt (g := gb280) (o := .cells #[.int .i64 0, .int .i64 0] 24 (0, 0)) (by (with_reducible repeat (first | refine blk_drewN ?_ _ | refine blk_drew ?_ | refine blk_alloc ?_ _)); exact (Q5 (show b 8 = true from h1_) (hoff 11 (by kernel_rfl))))) : gb279 ≠ gb280)))
                            have z_BK278 := fun (h0_ : b 6 = true) (h1_ : b 9 = false) => (show w27.heap[gb278]? = some (.cells #[.int .i64 0, .int .i64 0] 24 (0, 0)) from by first | exact (blk_below (g := gb278) (o := .cells #[.int .i64 0, .int .i64 0] 24 (0, 0)) (by (with_reducible repeat (first | refine blk_drewN ?_ _ | refine blk_drew ?_ | refine blk_alloc ?_ _)); exact (Q1 h0_ h1_)) hb))
                            have z_BK280 := fun (h0_ : b 8 = true) (h1_ : b 11 = false) => (show w27.heap[gb280]? = some (.cells #[.int .i64 0, .int .i64 0] 24 (0, 0)) from by first | exact (blk_below (g := gb280) (o := .cells #[.int .i64 0, .int .i64 0] 24 (0, 0)) (by (with_reducible repeat (first | refine blk_drewN ?_ _ | refine blk_drew ?_ | refine blk_alloc ?_ _)); exact (Q5 h0_ h1_)) hb))
                            clear BK269
                            clear HB
                            have BK269 := n0_
                            have HB := n1_
                            have BK279 := n2_
                            have GW279 := n3_
                            have GE279 := n4_
                            have NB269_279 := n5_
                            have NB279_269 := n6_
                            clear n0_ n1_ n2_ n3_ n4_ n5_ n6_
                            clear hb hbox hg
                            refine hK.out _ _ ⟨gb278, gb279, gb280, m6_, (.pointer (some ⟨gb279, 0, none⟩)), m8_, (by rw [ha.out]; exact putSel_upk 7 hb_ rfl rfl rfl), (by (with_reducible repeat (first | refine blk_drewN ?_ _ | refine blk_drew ?_ | refine blk_alloc ?_ _)); exact BK269.out), (by repeat (first | (with_reducible first | exact HB.out | apply below_alloc | apply pw_below_drewN | apply below_drew1 | refine below_set ?_ GE269.out | refine below_set ?_ GE279.out) | exact HB.out)), @z_NB279_278, @z_NB278_279, Q24, Q19, @z_NB280_279, @z_NB279_280, z_BK278, Q10, Q7, Q14, Q17, fun _ _ => (by (with_reducible repeat (first | refine blk_drewN ?_ _ | refine blk_drew ?_ | refine blk_alloc ?_ _)); exact BK279.out), fun _ => GW279.out, fun _ => GE279.out, fun _ => NB269_279.out, fun _ => NB279_269.out, z_BK280, Q12, Q9, Q16, Q23, fun h0_ => absurd ((hoff 9 (by kernel_rfl)).symm.trans h0_) (by decide), fun h0_ => absurd ((hoff 10 (by kernel_rfl)).symm.trans h0_) (by decide), fun h0_ => absurd ((hoff 11 (by kernel_rfl)).symm.trans h0_) (by decide), Q26, fun _ => rfl, Q28⟩
                          refine steps_cons ?_ ?_
                          · rintro b a w' ⟨gb278, gb279, gb280, m6_, m7_, m8_, ha, Q0, Q13, Q21, Q18, Q24, Q19, Q25, Q22, Q1, Q10, Q7, Q14, Q17, Q3, Q11, Q8, Q15, Q20, Q5, Q12, Q9, Q16, Q23, Q2, Q4, Q6, Q26, Q27, Q28⟩ hb_ hon hoff
                            refine ⟨_, rfl, fun K hK => ?_⟩
                            replace ha := Aside0.mk ha
                            have BK269 := Aside0.mk Q0
                            have HB := Aside0.mk Q13
                            refine box_step ?hg (N := 5) ?hd (cs := #[.int .i64 0, .int .i64 0]) (t := 24) ?hr ?_; (case hd => rfl); (case hg => rfl); (case hr => first | (go_simp; done) | (go_simp; rfl))
                            intro gb280 hg w27 hbox hb
                            have n0_ := Aside0.mk (blk_below (g := gb269) (o := .cells #[.int .i64 a0_0, .int .i64 a0_1] 24 (0, 0)) (by (with_reducible repeat (first | refine blk_drewN ?_ _ | refine blk_drew ?_ | refine blk_alloc ?_ _)); exact BK269.out) hb)
                            have n1_ := Aside0.mk (below_step (by repeat (first | (with_reducible first | exact HB.out | apply below_alloc | apply pw_below_drewN | apply below_drew1 | refine below_set ?_ GE269.out) | exact HB.out)) hb)
                            have n2_ := Aside0.mk (hbox)
                            have n3_ := Aside0.mk ((by rw [hg]; exact (below_size (by repeat (first | (with_reducible first | exact HB.out | apply below_alloc | apply pw_below_drewN | apply below_drew1 | refine below_set ?_ GE269.out) | exact HB.out))) : w.heap.size ≤ gb280))
                            have n4_ := Aside0.mk ((by rw [hg]; exact (below_size (by repeat (first | (with_reducible first | exact HB.out | apply below_alloc | apply pw_below_drewN | apply below_drew1 | refine below_set ?_ GE269.out) | exact HB.out))) : w.heap.size ≤ gb280))
                            have n5_ := Aside0.mk ((by rw [hg]; exact Nat.ne_of_lt (blk_lt (g := gb269) (o := .cells #[.int .i64 a0_0, .int .i64 a0_1] 24 (0, 0)) (by (with_reducible repeat (first | refine blk_drewN ?_ _ | refine blk_drew ?_ | refine blk_alloc ?_ _)); exact BK269.out)) : gb269 ≠ gb280))
                            have n6_ := Aside0.mk ((by rw [hg]; exact Nat.ne_of_gt (blk_lt (g := gb269) (o := .cells #[.int .i64 a0_0, .int .i64 a0_1] 24 (0, 0)) (by (with_reducible repeat (first | refine blk_drewN ?_ _ | refine blk_drew ?_ | refine blk_alloc ?_ _)); exact BK269.out)) : gb280 ≠ gb269))
                            have z_NB280_278 := fun (h0_ : up b 8 6 = true) (h1_ : up b 8 8 = true) => (show gb280 ≠ gb278 from ((by rw [hg]; exact Nat.ne_of_gt (blk_lt (g := gb278) (o := .cells #[.int .i64 0, .int .i64 0] 24 (0, 0)) (by (with_reducible repeat (first | refine blk_drewN ?_ _ | refine blk_drew ?_ | refine blk_alloc ?_ _)); exact (Q1 (show b 6 = true from h0_) (hoff 9 (by kernel_rfl))))) : gb280 ≠ gb278)))
                            have z_NB278_280 := fun (h0_ : up b 8 6 = true) (h1_ : up b 8 8 = true) => (show gb278 ≠ gb280 from ((by rw [hg]; exact Nat.ne_of_lt (blk_lt (g := gb278) (o := .cells #[.int .i64 0, .int .i64 0] 24 (0, 0)) (by (with_reducible repeat (first | refine blk_drewN ?_ _ | refine blk_drew ?_ | refine blk_alloc ?_ _)); exact (Q1 (show b 6 = true from h0_) (hoff 9 (by kernel_rfl))))) : gb278 ≠ gb280)))
                            have z_NB280_279 := fun (h0_ : up b 8 7 = true) (h1_ : up b 8 8 = true) => (show gb280 ≠ gb279 from ((by rw [hg]; exact Nat.ne_of_gt (blk_lt (g := gb279) (o := .cells #[.int .i64 0, .int .i64 0] 24 (0, 0)) (by (with_reducible repeat (first | refine blk_drewN ?_ _ | refine blk_drew ?_ | refine blk_alloc ?_ _)); exact (Q3 (show b 7 = true from h0_) (hoff 10 (by kernel_rfl))))) : gb280 ≠ gb279)))
                            have z_NB279_280 := fun (h0_ : up b 8 7 = true) (h1_ : up b 8 8 = true) => (show gb279 ≠ gb280 from ((by rw [hg]; exact Nat.ne_of_lt (blk_lt (g := gb279) (o := .cells #[.int .i64 0, .int .i64 0] 24 (0, 0)) (by (with_reducible repeat (first | refine blk_drewN ?_ _ | refine blk_drew ?_ | refine blk_alloc ?_ _)); exact (Q3 (show b 7 = true from h0_) (hoff 10 (by kernel_rfl))))) : gb279 ≠ gb280)))
                            have z_BK278 := fun (h0_ : b 6 = true) (h1_ : b 9 = false) => (show w27.heap[gb278]? = some (.cells #[.int .i64 0, .int .i64 0] 24 (0, 0)) from by first | exact (blk_below (g := gb278) (o := .cells #[.int .i64 0, .int .i64 0] 24 (0, 0)) (by (with_reducible repeat (first | refine blk_drewN ?_ _ | refine blk_drew ?_ | refine blk_alloc ?_ _)); exact (Q1 h0_ h1_)) hb))
                            have z_BK279 := fun (h0_ : b 7 = true) (h1_ : b 10 = false) => (show w27.heap[gb279]? = some (.cells #[.int .i64 0, .int .i64 0] 24 (0, 0)) from by first | exact (blk_below (g := gb279) (o := .cells #[.int .i64 0, .int .i64 0] 24 (0, 0)) (by (with_reducible repeat (first | refine blk_drewN ?_ _ | refine blk_drew ?_ | refine blk_alloc ?_ _)); exact (Q3 h0_ h1_)) hb))
                            clear BK269
                            clear HB
                            have BK269 := n0_
                            have HB := n1_
                            have BK280 := n2_
                            have GW280 := n3_
                            have GE280 := n4_
                            have NB269_280 := n5_
                            have NB280_269 := n6_
                            clear n0_ n1_ n2_ n3_ n4_ n5_ n6_
                            clear hb hbox hg
                            refine hK.out _ _ ⟨gb278, gb279, gb280, m6_, m7_, (.pointer (some ⟨gb280, 0, none⟩)), (by rw [ha.out]; exact putSel_upk 8 hb_ rfl rfl rfl), (by (with_reducible repeat (first | refine blk_drewN ?_ _ | refine blk_drew ?_ | refine blk_alloc ?_ _)); exact BK269.out), (by repeat (first | (with_reducible first | exact HB.out | apply below_alloc | apply pw_below_drewN | apply below_drew1 | refine below_set ?_ GE269.out | refine below_set ?_ GE280.out) | exact HB.out)), Q21, Q18, @z_NB280_278, @z_NB278_280, @z_NB280_279, @z_NB279_280, z_BK278, Q10, Q7, Q14, Q17, z_BK279, Q11, Q8, Q15, Q20, fun _ _ => (by (with_reducible repeat (first | refine blk_drewN ?_ _ | refine blk_drew ?_ | refine blk_alloc ?_ _)); exact BK280.out), fun _ => GW280.out, fun _ => GE280.out, fun _ => NB269_280.out, fun _ => NB280_269.out, fun h0_ => absurd ((hoff 9 (by kernel_rfl)).symm.trans h0_) (by decide), fun h0_ => absurd ((hoff 10 (by kernel_rfl)).symm.trans h0_) (by decide), fun h0_ => absurd ((hoff 11 (by kernel_rfl)).symm.trans h0_) (by decide), Q26, Q27, fun _ => rfl⟩
                          refine steps_cons ?_ ?_
                          · rintro b a w' ⟨gb278, gb279, gb280, m6_, m7_, m8_, ha, Q0, Q13, Q21, Q18, Q24, Q19, Q25, Q22, Q1, Q10, Q7, Q14, Q17, Q3, Q11, Q8, Q15, Q20, Q5, Q12, Q9, Q16, Q23, Q2, Q4, Q6, Q26, Q27, Q28⟩ hb_ hon hoff
                            refine ⟨_, rfl, fun K hK => ?_⟩
                            have e3 : a.tmps[3]? = some (m6_) := by rw [ha]; exact putSel_on (e := (6, 3, m6_)) 6 rfl rfl (hon 6 (by kernel_rfl)) rfl
                            rw [Q26 (hon 6 (by kernel_rfl))] at e3
                            have e17 : a.tmps[17]? = some (.agg #[.int .i64 t272, .int .i64 t273]) := by rw [ha]; exact putSel_on (e := (1, 17, .agg #[.int .i64 t272, .int .i64 t273])) 1 rfl rfl (hon 1 (by kernel_rfl)) rfl
                            replace ha := Aside0.mk ha
                            have BK269 := Aside0.mk Q0
                            have HB := Aside0.mk Q13
                            have NB279_278 := Aside0.mk (Q21 (hon 6 (by kernel_rfl)) (hon 7 (by kernel_rfl)))
                            have NB278_279 := Aside0.mk (Q18 (hon 6 (by kernel_rfl)) (hon 7 (by kernel_rfl)))
                            have NB280_278 := Aside0.mk (Q24 (hon 6 (by kernel_rfl)) (hon 8 (by kernel_rfl)))
                            have NB278_280 := Aside0.mk (Q19 (hon 6 (by kernel_rfl)) (hon 8 (by kernel_rfl)))
                            have NB280_279 := Aside0.mk (Q25 (hon 7 (by kernel_rfl)) (hon 8 (by kernel_rfl)))
                            have NB279_280 := Aside0.mk (Q22 (hon 7 (by kernel_rfl)) (hon 8 (by kernel_rfl)))
                            have BK278 := Aside0.mk (Q1 (hon 6 (by kernel_rfl)) hb_)
                            have GW278 := Aside0.mk (Q10 (hon 6 (by kernel_rfl)))
                            have GE278 := Aside0.mk (Q7 (hon 6 (by kernel_rfl)))
                            have NB269_278 := Aside0.mk (Q14 (hon 6 (by kernel_rfl)))
                            have NB278_269 := Aside0.mk (Q17 (hon 6 (by kernel_rfl)))
                            have BK279 := Aside0.mk (Q3 (hon 7 (by kernel_rfl)) (hoff 10 (by kernel_rfl)))
                            have GW279 := Aside0.mk (Q11 (hon 7 (by kernel_rfl)))
                            have GE279 := Aside0.mk (Q8 (hon 7 (by kernel_rfl)))
                            have NB269_279 := Aside0.mk (Q15 (hon 7 (by kernel_rfl)))
                            have NB279_269 := Aside0.mk (Q20 (hon 7 (by kernel_rfl)))
                            have BK280 := Aside0.mk (Q5 (hon 8 (by kernel_rfl)) (hoff 11 (by kernel_rfl)))
                            have GW280 := Aside0.mk (Q12 (hon 8 (by kernel_rfl)))
                            have GE280 := Aside0.mk (Q9 (hon 8 (by kernel_rfl)))
                            have NB269_280 := Aside0.mk (Q16 (hon 8 (by kernel_rfl)))
                            have NB280_269 := Aside0.mk (Q23 (hon 8 (by kernel_rfl)))
                            have hs34 : w'.cell? ⟨gb278, 0, none⟩ = some (.int .i64 0) := (blk_cell BK278.out 0).trans rfl
                            have hfs34 := blk_frozen BK278.out 0
                            have hns34_0 := NB269_278.out
                            have hns34_2 := NB279_278.out
                            have hns34_3 := NB280_278.out
                            have hms34_0 := NB278_269.out
                            have hms34_2 := NB278_279.out
                            have hms34_3 := NB278_280.out
                            have hs35 : w'.cell? ⟨gb278, 1, none⟩ = some (.int .i64 0) := (blk_cell BK278.out 1).trans rfl
                            have hfs35 := blk_frozen BK278.out 1
                            have hns35_0 := NB269_278.out
                            have hns35_2 := NB279_278.out
                            have hns35_3 := NB280_278.out
                            have hms35_0 := NB278_269.out
                            have hms35_2 := NB278_279.out
                            have hms35_3 := NB278_280.out
                            refine skip_ (w1 := ?_) (by rfl) rfl ?_ ?_
                            rotate_left
                            · go_simp
                              rfl
                            refine hK.out _ _ ⟨gb278, gb279, gb280, m6_, m7_, m8_, (by rw [ha.out]; exact putSel_none (v := undef) rfl), (by (with_reducible repeat (first | refine blk_drewN ?_ _ | refine blk_drew ?_ | refine blk_alloc ?_ _)); refine blk_far ?_ NB269_278.out _; (with_reducible repeat (first | refine blk_drewN ?_ _ | refine blk_drew ?_ | refine blk_alloc ?_ _)); refine blk_far ?_ NB269_278.out _; (with_reducible repeat (first | refine blk_drewN ?_ _ | refine blk_drew ?_ | refine blk_alloc ?_ _)); exact BK269.out), (by repeat (first | (with_reducible first | exact HB.out | apply below_alloc | apply pw_below_drewN | apply below_drew1 | refine below_set ?_ GE269.out | refine below_set ?_ GE278.out | refine below_set ?_ GE279.out | refine below_set ?_ GE280.out) | exact HB.out)), fun _ _ => NB279_278.out, fun _ _ => NB278_279.out, fun _ _ => NB280_278.out, fun _ _ => NB278_280.out, fun _ _ => NB280_279.out, fun _ _ => NB279_280.out, fun _ h1_ => absurd ((up_self b 9).symm.trans h1_) (by decide), fun _ => GW278.out, fun _ => GE278.out, fun _ => NB269_278.out, fun _ => NB278_269.out, fun _ _ => (by (with_reducible repeat (first | refine blk_drewN ?_ _ | refine blk_drew ?_ | refine blk_alloc ?_ _)); refine blk_far ?_ NB279_278.out _; (with_reducible repeat (first | refine blk_drewN ?_ _ | refine blk_drew ?_ | refine blk_alloc ?_ _)); refine blk_far ?_ NB279_278.out _; (with_reducible repeat (first | refine blk_drewN ?_ _ | refine blk_drew ?_ | refine blk_alloc ?_ _)); exact BK279.out), fun _ => GW279.out, fun _ => GE279.out, fun _ => NB269_279.out, fun _ => NB279_269.out, fun _ _ => (by (with_reducible repeat (first | refine blk_drewN ?_ _ | refine blk_drew ?_ | refine blk_alloc ?_ _)); refine blk_far ?_ NB280_278.out _; (with_reducible repeat (first | refine blk_drewN ?_ _ | refine blk_drew ?_ | refine blk_alloc ?_ _)); refine blk_far ?_ NB280_278.out _; (with_reducible repeat (first | refine blk_drewN ?_ _ | refine blk_drew ?_ | refine blk_alloc ?_ _)); exact BK280.out), fun _ => GW280.out, fun _ => GE280.out, fun _ => NB269_280.out, fun _ => NB280_269.out, fun _ => (by (with_reducible repeat (first | refine blk_drewN ?_ _ | refine blk_drew ?_ | refine blk_alloc ?_ _)); refine blk_put (cs := #[.int .i64 t272, .int .i64 0]) ?_ 1 _ rfl; (with_reducible repeat (first | refine blk_drewN ?_ _ | refine blk_drew ?_ | refine blk_alloc ?_ _)); refine blk_put (cs := #[.int .i64 0, .int .i64 0]) ?_ 0 _ rfl; (with_reducible repeat (first | refine blk_drewN ?_ _ | refine blk_drew ?_ | refine blk_alloc ?_ _)); exact BK278.out), fun h0_ => absurd ((hoff 10 (by kernel_rfl)).symm.trans h0_) (by decide), fun h0_ => absurd ((hoff 11 (by kernel_rfl)).symm.trans h0_) (by decide), Q26, Q27, Q28⟩
                          refine steps_cons ?_ ?_
                          · rintro b a w' ⟨gb278, gb279, gb280, m6_, m7_, m8_, ha, Q0, Q13, Q21, Q18, Q24, Q19, Q25, Q22, Q1, Q10, Q7, Q14, Q17, Q3, Q11, Q8, Q15, Q20, Q5, Q12, Q9, Q16, Q23, Q2, Q4, Q6, Q26, Q27, Q28⟩ hb_ hon hoff
                            refine ⟨_, rfl, fun K hK => ?_⟩
                            have e4 : a.tmps[4]? = some (m7_) := by rw [ha]; exact putSel_on (e := (7, 4, m7_)) 7 rfl rfl (hon 7 (by kernel_rfl)) rfl
                            rw [Q27 (hon 7 (by kernel_rfl))] at e4
                            have e19 : a.tmps[19]? = some (.agg #[.int .i64 t274, .int .i64 t275]) := by rw [ha]; exact putSel_on (e := (3, 19, .agg #[.int .i64 t274, .int .i64 t275])) 3 rfl rfl (hon 3 (by kernel_rfl)) rfl
                            replace ha := Aside0.mk ha
                            have BK269 := Aside0.mk Q0
                            have HB := Aside0.mk Q13
                            have NB279_278 := Aside0.mk (Q21 (hon 6 (by kernel_rfl)) (hon 7 (by kernel_rfl)))
                            have NB278_279 := Aside0.mk (Q18 (hon 6 (by kernel_rfl)) (hon 7 (by kernel_rfl)))
                            have NB280_278 := Aside0.mk (Q24 (hon 6 (by kernel_rfl)) (hon 8 (by kernel_rfl)))
                            have NB278_280 := Aside0.mk (Q19 (hon 6 (by kernel_rfl)) (hon 8 (by kernel_rfl)))
                            have NB280_279 := Aside0.mk (Q25 (hon 7 (by kernel_rfl)) (hon 8 (by kernel_rfl)))
                            have NB279_280 := Aside0.mk (Q22 (hon 7 (by kernel_rfl)) (hon 8 (by kernel_rfl)))
                            have GW278 := Aside0.mk (Q10 (hon 6 (by kernel_rfl)))
                            have GE278 := Aside0.mk (Q7 (hon 6 (by kernel_rfl)))
                            have NB269_278 := Aside0.mk (Q14 (hon 6 (by kernel_rfl)))
                            have NB278_269 := Aside0.mk (Q17 (hon 6 (by kernel_rfl)))
                            have BK279 := Aside0.mk (Q3 (hon 7 (by kernel_rfl)) hb_)
                            have GW279 := Aside0.mk (Q11 (hon 7 (by kernel_rfl)))
                            have GE279 := Aside0.mk (Q8 (hon 7 (by kernel_rfl)))
                            have NB269_279 := Aside0.mk (Q15 (hon 7 (by kernel_rfl)))
                            have NB279_269 := Aside0.mk (Q20 (hon 7 (by kernel_rfl)))
                            have BK280 := Aside0.mk (Q5 (hon 8 (by kernel_rfl)) (hoff 11 (by kernel_rfl)))
                            have GW280 := Aside0.mk (Q12 (hon 8 (by kernel_rfl)))
                            have GE280 := Aside0.mk (Q9 (hon 8 (by kernel_rfl)))
                            have NB269_280 := Aside0.mk (Q16 (hon 8 (by kernel_rfl)))
                            have NB280_269 := Aside0.mk (Q23 (hon 8 (by kernel_rfl)))
                            have BK278 := Aside0.mk (Q2 (hon 9 (by kernel_rfl)))
                            have hs36 : w'.cell? ⟨gb279, 0, none⟩ = some (.int .i64 0) := (blk_cell BK279.out 0).trans rfl
                            have hfs36 := blk_frozen BK279.out 0
                            have hns36_0 := NB269_279.out
                            have hns36_1 := NB278_279.out
                            have hns36_3 := NB280_279.out
                            have hms36_0 := NB279_269.out
                            have hms36_1 := NB279_278.out
                            have hms36_3 := NB279_280.out
                            have hs37 : w'.cell? ⟨gb279, 1, none⟩ = some (.int .i64 0) := (blk_cell BK279.out 1).trans rfl
                            have hfs37 := blk_frozen BK279.out 1
                            have hns37_0 := NB269_279.out
                            have hns37_1 := NB278_279.out
                            have hns37_3 := NB280_279.out
                            have hms37_0 := NB279_269.out
                            have hms37_1 := NB279_278.out
                            have hms37_3 := NB279_280.out
                            refine skip_ (w1 := ?_) (by rfl) rfl ?_ ?_
                            rotate_left
                            · go_simp
                              rfl
                            refine hK.out _ _ ⟨gb278, gb279, gb280, m6_, m7_, m8_, (by rw [ha.out]; exact putSel_none (v := undef) rfl), (by (with_reducible repeat (first | refine blk_drewN ?_ _ | refine blk_drew ?_ | refine blk_alloc ?_ _)); refine blk_far ?_ NB269_279.out _; (with_reducible repeat (first | refine blk_drewN ?_ _ | refine blk_drew ?_ | refine blk_alloc ?_ _)); refine blk_far ?_ NB269_279.out _; (with_reducible repeat (first | refine blk_drewN ?_ _ | refine blk_drew ?_ | refine blk_alloc ?_ _)); exact BK269.out), (by repeat (first | (with_reducible first | exact HB.out | apply below_alloc | apply pw_below_drewN | apply below_drew1 | refine below_set ?_ GE269.out | refine below_set ?_ GE278.out | refine below_set ?_ GE279.out | refine below_set ?_ GE280.out) | exact HB.out)), fun _ _ => NB279_278.out, fun _ _ => NB278_279.out, fun _ _ => NB280_278.out, fun _ _ => NB278_280.out, fun _ _ => NB280_279.out, fun _ _ => NB279_280.out, fun _ h1_ => absurd ((hon 9 (by kernel_rfl)).symm.trans h1_) (by decide), fun _ => GW278.out, fun _ => GE278.out, fun _ => NB269_278.out, fun _ => NB278_269.out, fun _ h1_ => absurd ((up_self b 10).symm.trans h1_) (by decide), fun _ => GW279.out, fun _ => GE279.out, fun _ => NB269_279.out, fun _ => NB279_269.out, fun _ _ => (by (with_reducible repeat (first | refine blk_drewN ?_ _ | refine blk_drew ?_ | refine blk_alloc ?_ _)); refine blk_far ?_ NB280_279.out _; (with_reducible repeat (first | refine blk_drewN ?_ _ | refine blk_drew ?_ | refine blk_alloc ?_ _)); refine blk_far ?_ NB280_279.out _; (with_reducible repeat (first | refine blk_drewN ?_ _ | refine blk_drew ?_ | refine blk_alloc ?_ _)); exact BK280.out), fun _ => GW280.out, fun _ => GE280.out, fun _ => NB269_280.out, fun _ => NB280_269.out, fun _ => (by (with_reducible repeat (first | refine blk_drewN ?_ _ | refine blk_drew ?_ | refine blk_alloc ?_ _)); refine blk_far ?_ NB278_279.out _; (with_reducible repeat (first | refine blk_drewN ?_ _ | refine blk_drew ?_ | refine blk_alloc ?_ _)); refine blk_far ?_ NB278_279.out _; (with_reducible repeat (first | refine blk_drewN ?_ _ | refine blk_drew ?_ | refine blk_alloc ?_ _)); exact BK278.out), fun _ => (by (with_reducible repeat (first | refine blk_drewN ?_ _ | refine blk_drew ?_ | refine blk_alloc ?_ _)); refine blk_put (cs := #[.int .i64 t274, .int .i64 0]) ?_ 1 _ rfl; (with_reducible repeat (first | refine blk_drewN ?_ _ | refine blk_drew ?_ | refine blk_alloc ?_ _)); refine blk_put (cs := #[.int .i64 0, .int .i64 0]) ?_ 0 _ rfl; (with_reducible repeat (first | refine blk_drewN ?_ _ | refine blk_drew ?_ | refine blk_alloc ?_ _)); exact BK279.out), fun h0_ => absurd ((hoff 11 (by kernel_rfl)).symm.trans h0_) (by decide), Q26, Q27, Q28⟩
                          refine steps_cons ?_ ?_
                          · rintro b a w' ⟨gb278, gb279, gb280, m6_, m7_, m8_, ha, Q0, Q13, Q21, Q18, Q24, Q19, Q25, Q22, Q1, Q10, Q7, Q14, Q17, Q3, Q11, Q8, Q15, Q20, Q5, Q12, Q9, Q16, Q23, Q2, Q4, Q6, Q26, Q27, Q28⟩ hb_ hon hoff
                            refine ⟨_, rfl, fun K hK => ?_⟩
                            have e5 : a.tmps[5]? = some (m8_) := by rw [ha]; exact putSel_on (e := (8, 5, m8_)) 8 rfl rfl (hon 8 (by kernel_rfl)) rfl
                            rw [Q28 (hon 8 (by kernel_rfl))] at e5
                            have e21 : a.tmps[21]? = some (.agg #[.int .i64 t276, .int .i64 t277]) := by rw [ha]; exact putSel_on (e := (5, 21, .agg #[.int .i64 t276, .int .i64 t277])) 5 rfl rfl (hon 5 (by kernel_rfl)) rfl
                            replace ha := Aside0.mk ha
                            have BK269 := Aside0.mk Q0
                            have HB := Aside0.mk Q13
                            have NB279_278 := Aside0.mk (Q21 (hon 6 (by kernel_rfl)) (hon 7 (by kernel_rfl)))
                            have NB278_279 := Aside0.mk (Q18 (hon 6 (by kernel_rfl)) (hon 7 (by kernel_rfl)))
                            have NB280_278 := Aside0.mk (Q24 (hon 6 (by kernel_rfl)) (hon 8 (by kernel_rfl)))
                            have NB278_280 := Aside0.mk (Q19 (hon 6 (by kernel_rfl)) (hon 8 (by kernel_rfl)))
                            have NB280_279 := Aside0.mk (Q25 (hon 7 (by kernel_rfl)) (hon 8 (by kernel_rfl)))
                            have NB279_280 := Aside0.mk (Q22 (hon 7 (by kernel_rfl)) (hon 8 (by kernel_rfl)))
                            have GW278 := Aside0.mk (Q10 (hon 6 (by kernel_rfl)))
                            have GE278 := Aside0.mk (Q7 (hon 6 (by kernel_rfl)))
                            have NB269_278 := Aside0.mk (Q14 (hon 6 (by kernel_rfl)))
                            have NB278_269 := Aside0.mk (Q17 (hon 6 (by kernel_rfl)))
                            have GW279 := Aside0.mk (Q11 (hon 7 (by kernel_rfl)))
                            have GE279 := Aside0.mk (Q8 (hon 7 (by kernel_rfl)))
                            have NB269_279 := Aside0.mk (Q15 (hon 7 (by kernel_rfl)))
                            have NB279_269 := Aside0.mk (Q20 (hon 7 (by kernel_rfl)))
                            have BK280 := Aside0.mk (Q5 (hon 8 (by kernel_rfl)) hb_)
                            have GW280 := Aside0.mk (Q12 (hon 8 (by kernel_rfl)))
                            have GE280 := Aside0.mk (Q9 (hon 8 (by kernel_rfl)))
                            have NB269_280 := Aside0.mk (Q16 (hon 8 (by kernel_rfl)))
                            have NB280_269 := Aside0.mk (Q23 (hon 8 (by kernel_rfl)))
                            have BK278 := Aside0.mk (Q2 (hon 9 (by kernel_rfl)))
                            have BK279 := Aside0.mk (Q4 (hon 10 (by kernel_rfl)))
                            have hs38 : w'.cell? ⟨gb280, 0, none⟩ = some (.int .i64 0) := (blk_cell BK280.out 0).trans rfl
                            have hfs38 := blk_frozen BK280.out 0
                            have hns38_0 := NB269_280.out
                            have hns38_1 := NB278_280.out
                            have hns38_2 := NB279_280.out
                            have hms38_0 := NB280_269.out
                            have hms38_1 := NB280_278.out
                            have hms38_2 := NB280_279.out
                            have hs39 : w'.cell? ⟨gb280, 1, none⟩ = some (.int .i64 0) := (blk_cell BK280.out 1).trans rfl
                            have hfs39 := blk_frozen BK280.out 1
                            have hns39_0 := NB269_280.out
                            have hns39_1 := NB278_280.out
                            have hns39_2 := NB279_280.out
                            have hms39_0 := NB280_269.out
                            have hms39_1 := NB280_278.out
                            have hms39_2 := NB280_279.out
                            refine skip_ (w1 := ?_) (by rfl) rfl ?_ ?_
                            rotate_left
                            · go_simp
                              rfl
                            refine hK.out _ _ ⟨gb278, gb279, gb280, m6_, m7_, m8_, (by rw [ha.out]; exact putSel_none (v := undef) rfl), (by (with_reducible repeat (first | refine blk_drewN ?_ _ | refine blk_drew ?_ | refine blk_alloc ?_ _)); refine blk_far ?_ NB269_280.out _; (with_reducible repeat (first | refine blk_drewN ?_ _ | refine blk_drew ?_ | refine blk_alloc ?_ _)); refine blk_far ?_ NB269_280.out _; (with_reducible repeat (first | refine blk_drewN ?_ _ | refine blk_drew ?_ | refine blk_alloc ?_ _)); exact BK269.out), (by repeat (first | (with_reducible first | exact HB.out | apply below_alloc | apply pw_below_drewN | apply below_drew1 | refine below_set ?_ GE269.out | refine below_set ?_ GE278.out | refine below_set ?_ GE279.out | refine below_set ?_ GE280.out) | exact HB.out)), fun _ _ => NB279_278.out, fun _ _ => NB278_279.out, fun _ _ => NB280_278.out, fun _ _ => NB278_280.out, fun _ _ => NB280_279.out, fun _ _ => NB279_280.out, fun _ h1_ => absurd ((hon 9 (by kernel_rfl)).symm.trans h1_) (by decide), fun _ => GW278.out, fun _ => GE278.out, fun _ => NB269_278.out, fun _ => NB278_269.out, fun _ h1_ => absurd ((hon 10 (by kernel_rfl)).symm.trans h1_) (by decide), fun _ => GW279.out, fun _ => GE279.out, fun _ => NB269_279.out, fun _ => NB279_269.out, fun _ h1_ => absurd ((up_self b 11).symm.trans h1_) (by decide), fun _ => GW280.out, fun _ => GE280.out, fun _ => NB269_280.out, fun _ => NB280_269.out, fun _ => (by (with_reducible repeat (first | refine blk_drewN ?_ _ | refine blk_drew ?_ | refine blk_alloc ?_ _)); refine blk_far ?_ NB278_280.out _; (with_reducible repeat (first | refine blk_drewN ?_ _ | refine blk_drew ?_ | refine blk_alloc ?_ _)); refine blk_far ?_ NB278_280.out _; (with_reducible repeat (first | refine blk_drewN ?_ _ | refine blk_drew ?_ | refine blk_alloc ?_ _)); exact BK278.out), fun _ => (by (with_reducible repeat (first | refine blk_drewN ?_ _ | refine blk_drew ?_ | refine blk_alloc ?_ _)); refine blk_far ?_ NB279_280.out _; (with_reducible repeat (first | refine blk_drewN ?_ _ | refine blk_drew ?_ | refine blk_alloc ?_ _)); refine blk_far ?_ NB279_280.out _; (with_reducible repeat (first | refine blk_drewN ?_ _ | refine blk_drew ?_ | refine blk_alloc ?_ _)); exact BK279.out), fun _ => (by (with_reducible repeat (first | refine blk_drewN ?_ _ | refine blk_drew ?_ | refine blk_alloc ?_ _)); refine blk_put (cs := #[.int .i64 t276, .int .i64 0]) ?_ 1 _ rfl; (with_reducible repeat (first | refine blk_drewN ?_ _ | refine blk_drew ?_ | refine blk_alloc ?_ _)); refine blk_put (cs := #[.int .i64 0, .int .i64 0]) ?_ 0 _ rfl; (with_reducible repeat (first | refine blk_drewN ?_ _ | refine blk_drew ?_ | refine blk_alloc ?_ _)); exact BK280.out), Q26, Q27, Q28⟩
                          exact steps_nil
                        rintro b a w39 hall ⟨gb278, gb279, gb280, m6_, m7_, m8_, ha, Q0, Q13, Q21, Q18, Q24, Q19, Q25, Q22, Q1, Q10, Q7, Q14, Q17, Q3, Q11, Q8, Q15, Q20, Q5, Q12, Q9, Q16, Q23, Q2, Q4, Q6, Q26, Q27, Q28⟩
                        clear BK269 HB
                        have hb0_ := hall 0 (by kernel_rfl)
                        have hb1_ := hall 1 (by kernel_rfl)
                        have hb2_ := hall 2 (by kernel_rfl)
                        have hb3_ := hall 3 (by kernel_rfl)
                        have hb4_ := hall 4 (by kernel_rfl)
                        have hb5_ := hall 5 (by kernel_rfl)
                        have hb6_ := hall 6 (by kernel_rfl)
                        have hb7_ := hall 7 (by kernel_rfl)
                        have hb8_ := hall 8 (by kernel_rfl)
                        have hb9_ := hall 9 (by kernel_rfl)
                        have hb10_ := hall 10 (by kernel_rfl)
                        have hb11_ := hall 11 (by kernel_rfl)
                        subst ha
                        obtain rfl := Q26 hb6_
                        obtain rfl := Q27 hb7_
                        obtain rfl := Q28 hb8_
                        simp only [putSel, hb0_, hb1_, hb2_, hb3_, hb4_, hb5_, hb6_, hb7_, hb8_, hb9_, hb10_, hb11_, if_true, Act.put, List.setIfInBounds_toArray, List.set_cons_zero, List.set_cons_succ]
                        have BK269 := Aside0.mk Q0
                        clear Q0
                        have HB := Aside0.mk Q13
                        clear Q13
                        have NB279_278 := Aside0.mk (Q21 hb6_ hb7_)
                        clear Q21
                        have NB278_279 := Aside0.mk (Q18 hb6_ hb7_)
                        clear Q18
                        have NB280_278 := Aside0.mk (Q24 hb6_ hb8_)
                        clear Q24
                        have NB278_280 := Aside0.mk (Q19 hb6_ hb8_)
                        clear Q19
                        have NB280_279 := Aside0.mk (Q25 hb7_ hb8_)
                        clear Q25
                        have NB279_280 := Aside0.mk (Q22 hb7_ hb8_)
                        clear Q22
                        clear Q1
                        have GW278 := Aside0.mk (Q10 hb6_)
                        clear Q10
                        have GE278 := Aside0.mk (Q7 hb6_)
                        clear Q7
                        have NB269_278 := Aside0.mk (Q14 hb6_)
                        clear Q14
                        have NB278_269 := Aside0.mk (Q17 hb6_)
                        clear Q17
                        clear Q3
                        have GW279 := Aside0.mk (Q11 hb7_)
                        clear Q11
                        have GE279 := Aside0.mk (Q8 hb7_)
                        clear Q8
                        have NB269_279 := Aside0.mk (Q15 hb7_)
                        clear Q15
                        have NB279_269 := Aside0.mk (Q20 hb7_)
                        clear Q20
                        clear Q5
                        have GW280 := Aside0.mk (Q12 hb8_)
                        clear Q12
                        have GE280 := Aside0.mk (Q9 hb8_)
                        clear Q9
                        have NB269_280 := Aside0.mk (Q16 hb8_)
                        clear Q16
                        have NB280_269 := Aside0.mk (Q23 hb8_)
                        clear Q23
                        have BK278 := Aside0.mk (Q2 hb9_)
                        clear Q2
                        have BK279 := Aside0.mk (Q4 hb10_)
                        clear Q4
                        have BK280 := Aside0.mk (Q6 hb11_)
                        clear Q6
                        clear hall hb0_ hb1_ hb2_ hb3_ hb4_ hb5_ hb6_ hb7_ hb8_ hb9_ hb10_ hb11_
                        have hnb40 := NB279_269.out
                        have hnc40 := NB269_279.out
                        have hnb41 := NB279_278.out
                        have hnc41 := NB278_279.out
                        have hnb42 := NB279_280.out
                        have hnc42 := NB280_279.out
                        have hcz43_0 : w39.cell? ⟨gb279, 0, none⟩ = some (.int .i64 t274) := (blk_cell BK279.out 0).trans rfl
                        have hcz43_1 : w39.cell? ⟨gb279, 1, none⟩ = some (.int .i64 t275) := (blk_cell BK279.out 1).trans rfl
                        have hfz43_0 := blk_frozen BK279.out 0
                        have hfz43_1 := blk_frozen BK279.out 1
                        have hnb44 := NB278_269.out
                        have hnc44 := NB269_278.out
                        have hnb45 := NB278_280.out
                        have hnc45 := NB280_278.out
                        have hcz46_0 : w39.cell? ⟨gb278, 0, none⟩ = some (.int .i64 t272) := (blk_cell BK278.out 0).trans rfl
                        have hcz46_1 : w39.cell? ⟨gb278, 1, none⟩ = some (.int .i64 t273) := (blk_cell BK278.out 1).trans rfl
                        have hfz46_0 := blk_frozen BK278.out 0
                        have hfz46_1 := blk_frozen BK278.out 1
                        try go_wp2_with (first | ((with_reducible refine gate_callee (f := 7) rfl ?_); refine goesL_ (some 27) rfl rfl Tryd.func7 (by kernel_rfl) rfl #[] rfl (by (try simp only [List.map_toArray, List.map_cons, List.map_nil]); first | done | rfl | (simp only [List.length_drop, List.length_take]; rfl)) ?_; (with_reducible refine (stencillaw02_live.calls kj1  true _ ?side1 A17.out).mono ?_); (case side1 => first | exact HLD | exact Laid.below HLD (by repeat (first | (with_reducible first | exact HB.out | apply below_alloc | apply pw_below_drewN | apply below_drew1 | refine below_set ?_ GE269.out | refine below_set ?_ GE278.out | refine below_set ?_ GE279.out | refine below_set ?_ GE280.out) | exact HB.out))); rintro e w47 ⟨rfl, hb⟩; refine ⟨_, rfl, ?_⟩; have n0_ := Aside0.mk (blk_below (g := gb269) (o := .cells #[.int .i64 a0_0, .int .i64 a0_1] 24 (0, 0)) (by (with_reducible repeat (first | refine blk_drewN ?_ _ | refine blk_drew ?_ | refine blk_alloc ?_ _)); exact BK269.out) hb); have n1_ := Aside0.mk (blk_below (g := gb278) (o := .cells #[.int .i64 t272, .int .i64 t273] 24 (0, 0)) (by (with_reducible repeat (first | refine blk_drewN ?_ _ | refine blk_drew ?_ | refine blk_alloc ?_ _)); exact BK278.out) hb); have n2_ := Aside0.mk (blk_below (g := gb279) (o := .cells #[.int .i64 t274, .int .i64 t275] 24 (0, 0)) (by (with_reducible repeat (first | refine blk_drewN ?_ _ | refine blk_drew ?_ | refine blk_alloc ?_ _)); exact BK279.out) hb); have n3_ := Aside0.mk (blk_below (g := gb280) (o := .cells #[.int .i64 t276, .int .i64 t277] 24 (0, 0)) (by (with_reducible repeat (first | refine blk_drewN ?_ _ | refine blk_drew ?_ | refine blk_alloc ?_ _)); exact BK280.out) hb); have n4_ := Aside0.mk (below_step (by repeat (first | (with_reducible first | exact HB.out | apply below_alloc | apply pw_below_drewN | apply below_drew1 | refine below_set ?_ GE269.out | refine below_set ?_ GE278.out | refine below_set ?_ GE279.out | refine below_set ?_ GE280.out) | exact HB.out)) hb); clear BK269; clear BK278; clear BK279; clear BK280; clear HB; have BK269 := n0_; have BK278 := n1_; have BK279 := n2_; have BK280 := n3_; have HB := n4_; clear n0_ n1_ n2_ n3_ n4_; (try clear hb); (try clear hb2); (try clear hk); (try clear hi); have hcz48_0 : w47.cell? ⟨gb278, 0, none⟩ = some (.int .i64 t272) := (blk_cell BK278.out 0).trans rfl; have hcz48_1 : w47.cell? ⟨gb278, 1, none⟩ = some (.int .i64 t273) := (blk_cell BK278.out 1).trans rfl; have hfz48_0 := blk_frozen BK278.out 0; have hfz48_1 := blk_frozen BK278.out 1; have hnb49 := NB269_280.out; have hnc49 := NB280_269.out; have hcz50_0 : w47.cell? ⟨gb269, 0, none⟩ = some (.int .i64 a0_0) := (blk_cell BK269.out 0).trans rfl; have hcz50_1 : w47.cell? ⟨gb269, 1, none⟩ = some (.int .i64 a0_1) := (blk_cell BK269.out 1).trans rfl; have hfz50_0 := blk_frozen BK269.out 0; have hfz50_1 := blk_frozen BK269.out 1; have hcz51_0 : w47.cell? ⟨gb279, 0, none⟩ = some (.int .i64 t274) := (blk_cell BK279.out 0).trans rfl; have hcz51_1 : w47.cell? ⟨gb279, 1, none⟩ = some (.int .i64 t275) := (blk_cell BK279.out 1).trans rfl; have hfz51_0 := blk_frozen BK279.out 0; have hfz51_1 := blk_frozen BK279.out 1; have hcz52_0 : w47.cell? ⟨gb280, 0, none⟩ = some (.int .i64 t276) := (blk_cell BK280.out 0).trans rfl; have hcz52_1 : w47.cell? ⟨gb280, 1, none⟩ = some (.int .i64 t277) := (blk_cell BK280.out 1).trans rfl; have hfz52_0 := blk_frozen BK280.out 0; have hfz52_1 := blk_frozen BK280.out 1) | (go_at_call 7; (with_reducible refine (stencillaw02_live.calls kj1  true _ ?side1 A17.out).mono ?_); (case side1 => first | exact HLD | exact Laid.below HLD (by repeat (first | (with_reducible first | exact HB.out | apply below_alloc | apply pw_below_drewN | apply below_drew1 | refine below_set ?_ GE269.out | refine below_set ?_ GE278.out | refine below_set ?_ GE279.out | refine below_set ?_ GE280.out) | exact HB.out))); rintro e w47 ⟨rfl, hb⟩; have n0_ := Aside0.mk (blk_below (g := gb269) (o := .cells #[.int .i64 a0_0, .int .i64 a0_1] 24 (0, 0)) (by (with_reducible repeat (first | refine blk_drewN ?_ _ | refine blk_drew ?_ | refine blk_alloc ?_ _)); exact BK269.out) hb); have n1_ := Aside0.mk (blk_below (g := gb278) (o := .cells #[.int .i64 t272, .int .i64 t273] 24 (0, 0)) (by (with_reducible repeat (first | refine blk_drewN ?_ _ | refine blk_drew ?_ | refine blk_alloc ?_ _)); exact BK278.out) hb); have n2_ := Aside0.mk (blk_below (g := gb279) (o := .cells #[.int .i64 t274, .int .i64 t275] 24 (0, 0)) (by (with_reducible repeat (first | refine blk_drewN ?_ _ | refine blk_drew ?_ | refine blk_alloc ?_ _)); exact BK279.out) hb); have n3_ := Aside0.mk (blk_below (g := gb280) (o := .cells #[.int .i64 t276, .int .i64 t277] 24 (0, 0)) (by (with_reducible repeat (first | refine blk_drewN ?_ _ | refine blk_drew ?_ | refine blk_alloc ?_ _)); exact BK280.out) hb); have n4_ := Aside0.mk (below_step (by repeat (first | (with_reducible first | exact HB.out | apply below_alloc | apply pw_below_drewN | apply below_drew1 | refine below_set ?_ GE269.out | refine below_set ?_ GE278.out | refine below_set ?_ GE279.out | refine below_set ?_ GE280.out) | exact HB.out)) hb); clear BK269; clear BK278; clear BK279; clear BK280; clear HB; have BK269 := n0_; have BK278 := n1_; have BK279 := n2_; have BK280 := n3_; have HB := n4_; clear n0_ n1_ n2_ n3_ n4_; (try clear hb); (try clear hb2); (try clear hk); (try clear hi); have hcz48_0 : w47.cell? ⟨gb278, 0, none⟩ = some (.int .i64 t272) := (blk_cell BK278.out 0).trans rfl; have hcz48_1 : w47.cell? ⟨gb278, 1, none⟩ = some (.int .i64 t273) := (blk_cell BK278.out 1).trans rfl; have hfz48_0 := blk_frozen BK278.out 0; have hfz48_1 := blk_frozen BK278.out 1; have hnb49 := NB269_280.out; have hnc49 := NB280_269.out; have hcz50_0 : w47.cell? ⟨gb269, 0, none⟩ = some (.int .i64 a0_0) := (blk_cell BK269.out 0).trans rfl; have hcz50_1 : w47.cell? ⟨gb269, 1, none⟩ = some (.int .i64 a0_1) := (blk_cell BK269.out 1).trans rfl; have hfz50_0 := blk_frozen BK269.out 0; have hfz50_1 := blk_frozen BK269.out 1; have hcz51_0 : w47.cell? ⟨gb279, 0, none⟩ = some (.int .i64 t274) := (blk_cell BK279.out 0).trans rfl; have hcz51_1 : w47.cell? ⟨gb279, 1, none⟩ = some (.int .i64 t275) := (blk_cell BK279.out 1).trans rfl; have hfz51_0 := blk_frozen BK279.out 0; have hfz51_1 := blk_frozen BK279.out 1; have hcz52_0 : w47.cell? ⟨gb280, 0, none⟩ = some (.int .i64 t276) := (blk_cell BK280.out 0).trans rfl; have hcz52_1 : w47.cell? ⟨gb280, 1, none⟩ = some (.int .i64 t277) := (blk_cell BK280.out 1).trans rfl; have hfz52_0 := blk_frozen BK280.out 0; have hfz52_1 := blk_frozen BK280.out 1))
                        all_goals (go_ret; exact ⟨by first | rfl | (simp [errW_none, errW_some] <;> rfl) | (simp [*, errW_none, errW_some] <;> rfl), by repeat (first | (with_reducible first | exact HB.out | apply below_alloc | apply pw_below_drewN | apply below_drew1 | refine below_set ?_ GE269.out | refine below_set ?_ GE278.out | refine below_set ?_ GE279.out | refine below_set ?_ GE280.out) | exact HB.out)⟩)
                      · rw [if_neg c25] at H
                        exact absurd H (by simp)
                    · rw [if_neg c24] at H
                      have c24b0 : (t276 == t272 && (t277 == t273)) = false := by simpa using c24
                      (try (have c24b1 : decide (t276 = t272 && (t277 == t273)) = false := by simpa using c24))
                      (try (have c24b2 : (t276 == t272 && (t277 == t273)) = false := by simpa using c24))
                      (try (have c24b3 : ¬ (t276 = t272 && (t277 == t273)) := by simpa using c24))
                      clear c24
                      by_cases c53 : (t276 == t274 && (t277 == t275)) = true
                      · rw [if_pos c53] at H
                        exact absurd H (by simp)
                      · rw [if_neg c53] at H
                        exact absurd H (by simp)
                  · rw [if_neg c23] at H
                    exact absurd H (by simp)
                · rw [if_neg c22] at H
                  have c22b0 : ((wrap64 (t275 - t273)) == 0) = false := beq_eq_false_iff_ne.mpr c22
                  have c22b1 : ((wrap64 (t275 - t273)) != 0) = true := bne_iff_ne.mpr c22
                  by_cases c54 : (wrap64 (t275 - t273)) = 1000000
                  · rw [if_pos c54] at H
                    have c54b0 : ((wrap64 (t275 - t273)) == 1000000) = true := beq_iff_eq.mpr c54
                    have c54b1 : ((wrap64 (t275 - t273)) != 1000000) = false := bne_eq_false_iff_eq.mpr c54
                    clear c54
                    by_cases c55 : (t276 == t272 && (t277 == t273)) = true
                    · rw [if_pos c55] at H
                      have c55b0 : (t276 == t272 && (t277 == t273)) = true := c55
                      (try (have c55b1 : decide (t276 = t272 && (t277 == t273)) = true := by simpa using c55))
                      (try (have c55b2 : (t276 == t272 && (t277 == t273)) = true := by simpa using c55))
                      clear c55
                      by_cases c56 : (wrap64 (a0_1 - t273)) < 500000
                      · rw [if_pos c56] at H
                        have c56b0 : decide ((wrap64 (a0_1 - t273)) < 500000) = true := decide_eq_true c56
                        clear c56
                        obtain rfl := Option.some.inj H
                        try go_wp2
                        have n0_ := Aside0.mk (blk_drew BK269.out)
                        have n1_ := Aside0.mk (below_drew1 HB.out)
                        clear BK269
                        clear HB
                        have BK269 := n0_
                        have HB := n1_
                        clear n0_ n1_
                        refine start_ (n := 12) (S := fun w' => True) (ds := []) #[false, false, false, false, false, false, false, false, false, false, false, false] (by kernel_rfl) rfl rfl trivial (fun hHeld => ?_); refine with_tabW stencillaw02_XnumNear.tab3 stencillaw02_XnumNear.bits3 (fun HT_ HW_ => ?_)
                        generalize wc.drew = w57 at BK269 HB hHeld ⊢
                        refine inv_at [0, 1, 2, 3, 4, 5, 6, 7, 8, 9, 10, 11] (fun a0_ b a w' => ∃ (gb278 : Nat) (gb279 : Nat) (gb280 : Nat) (m6_ : Value) (m7_ : Value) (m8_ : Value), a = putSel a0_ b [(0, 16, .agg #[.int .i64 a0_0, .int .i64 a0_1]), (1, 17, .agg #[.int .i64 t272, .int .i64 t273]), (2, 18, .agg #[.int .i64 a0_0, .int .i64 a0_1]), (3, 19, .agg #[.int .i64 t274, .int .i64 t275]), (4, 20, .agg #[.int .i64 a0_0, .int .i64 a0_1]), (5, 21, .agg #[.int .i64 t276, .int .i64 t277]), (6, 3, m6_), (7, 4, m7_), (8, 5, m8_)] ∧ (w'.heap[gb269]? = some (.cells #[.int .i64 a0_0, .int .i64 a0_1] 24 (0, 0))) ∧ (Below w.heap.size w w') ∧ (b 6 = true → b 7 = true → gb279 ≠ gb278) ∧ (b 6 = true → b 7 = true → gb278 ≠ gb279) ∧ (b 6 = true → b 8 = true → gb280 ≠ gb278) ∧ (b 6 = true → b 8 = true → gb278 ≠ gb280) ∧ (b 7 = true → b 8 = true → gb280 ≠ gb279) ∧ (b 7 = true → b 8 = true → gb279 ≠ gb280) ∧ (b 6 = true → b 9 = false → w'.heap[gb278]? = some (.cells #[.int .i64 0, .int .i64 0] 24 (0, 0))) ∧ (b 6 = true → w.heap.size ≤ gb278) ∧ (b 6 = true → w.heap.size ≤ gb278) ∧ (b 6 = true → gb269 ≠ gb278) ∧ (b 6 = true → gb278 ≠ gb269) ∧ (b 7 = true → b 10 = false → w'.heap[gb279]? = some (.cells #[.int .i64 0, .int .i64 0] 24 (0, 0))) ∧ (b 7 = true → w.heap.size ≤ gb279) ∧ (b 7 = true → w.heap.size ≤ gb279) ∧ (b 7 = true → gb269 ≠ gb279) ∧ (b 7 = true → gb279 ≠ gb269) ∧ (b 8 = true → b 11 = false → w'.heap[gb280]? = some (.cells #[.int .i64 0, .int .i64 0] 24 (0, 0))) ∧ (b 8 = true → w.heap.size ≤ gb280) ∧ (b 8 = true → w.heap.size ≤ gb280) ∧ (b 8 = true → gb269 ≠ gb280) ∧ (b 8 = true → gb280 ≠ gb269) ∧ (b 9 = true → w'.heap[gb278]? = some (.cells #[.int .i64 t272, .int .i64 t273] 24 (0, 0))) ∧ (b 10 = true → w'.heap[gb279]? = some (.cells #[.int .i64 t274, .int .i64 t275] 24 (0, 0))) ∧ (b 11 = true → w'.heap[gb280]? = some (.cells #[.int .i64 t276, .int .i64 t277] 24 (0, 0))) ∧ (b 6 = true → (m6_ : Value) = .pointer (some ⟨gb278, 0, none⟩)) ∧ (b 7 = true → (m7_ : Value) = .pointer (some ⟨gb279, 0, none⟩)) ∧ (b 8 = true → (m8_ : Value) = .pointer (some ⟨gb280, 0, none⟩))) HT_.out HW_.out (by kernel_rfl) (by kernel_rfl) ?_ ?_ ?_
                        · exact ⟨0, 0, 0, .bool false, .bool false, .bool false, by simp only [putSel, Bool.false_eq_true, if_false], BK269.out, HB.out, fun h_ => absurd h_ (by decide), fun h_ => absurd h_ (by decide), fun h_ => absurd h_ (by decide), fun h_ => absurd h_ (by decide), fun h_ => absurd h_ (by decide), fun h_ => absurd h_ (by decide), fun h_ => absurd h_ (by decide), fun h_ => absurd h_ (by decide), fun h_ => absurd h_ (by decide), fun h_ => absurd h_ (by decide), fun h_ => absurd h_ (by decide), fun h_ => absurd h_ (by decide), fun h_ => absurd h_ (by decide), fun h_ => absurd h_ (by decide), fun h_ => absurd h_ (by decide), fun h_ => absurd h_ (by decide), fun h_ => absurd h_ (by decide), fun h_ => absurd h_ (by decide), fun h_ => absurd h_ (by decide), fun h_ => absurd h_ (by decide), fun h_ => absurd h_ (by decide), fun h_ => absurd h_ (by decide), fun h_ => absurd h_ (by decide), fun h_ => absurd h_ (by decide), fun h_ => absurd h_ (by decide), fun h_ => absurd h_ (by decide), fun h_ => absurd h_ (by decide)⟩
                        · skip
                          clear BK269 HB
                          refine steps_cons ?_ ?_
                          · rintro b a w' ⟨gb278, gb279, gb280, m6_, m7_, m8_, ha, Q0, Q13, Q21, Q18, Q24, Q19, Q25, Q22, Q1, Q10, Q7, Q14, Q17, Q3, Q11, Q8, Q15, Q20, Q5, Q12, Q9, Q16, Q23, Q2, Q4, Q6, Q26, Q27, Q28⟩ hb_ hon hoff
                            refine ⟨_, rfl, fun K hK => ?_⟩
                            have e1 : a.tmps[1]? = some (.pointer (some ⟨gb269, 0, none⟩)) := by rw [ha]; exact (putSel_off rfl).trans rfl
                            replace ha := Aside0.mk ha
                            have BK269 := Aside0.mk Q0
                            have HB := Aside0.mk Q13
                            have hc0_ : w'.cell? ⟨gb269, 0, none⟩ = some (.int .i64 a0_0) := (blk_cell BK269.out 0).trans rfl
                            have hc1_ : w'.cell? ⟨gb269, 1, none⟩ = some (.int .i64 a0_1) := (blk_cell BK269.out 1).trans rfl
                            refine value_ (w1 := w') (v := .agg #[.int .i64 a0_0, .int .i64 a0_1]) (by rfl) rfl ?_ ?_
                            · go_simp
                              (try simp only [i64_w])
                              try rfl
                            refine hK.out _ _ ⟨gb278, gb279, gb280, m6_, m7_, m8_, (by rw [ha.out]; exact putSel_upk 0 hb_ rfl rfl rfl), Q0, Q13, Q21, Q18, Q24, Q19, Q25, Q22, Q1, Q10, Q7, Q14, Q17, Q3, Q11, Q8, Q15, Q20, Q5, Q12, Q9, Q16, Q23, fun h0_ => absurd ((hoff 9 (by kernel_rfl)).symm.trans h0_) (by decide), fun h0_ => absurd ((hoff 10 (by kernel_rfl)).symm.trans h0_) (by decide), fun h0_ => absurd ((hoff 11 (by kernel_rfl)).symm.trans h0_) (by decide), Q26, Q27, Q28⟩
                          refine steps_cons ?_ ?_
                          · rintro b a w' ⟨gb278, gb279, gb280, m6_, m7_, m8_, ha, Q0, Q13, Q21, Q18, Q24, Q19, Q25, Q22, Q1, Q10, Q7, Q14, Q17, Q3, Q11, Q8, Q15, Q20, Q5, Q12, Q9, Q16, Q23, Q2, Q4, Q6, Q26, Q27, Q28⟩ hb_ hon hoff
                            refine ⟨_, rfl, fun K hK => ?_⟩
                            have e16 : a.tmps[16]? = some (.agg #[.int .i64 a0_0, .int .i64 a0_1]) := by rw [ha]; exact putSel_on (e := (0, 16, .agg #[.int .i64 a0_0, .int .i64 a0_1])) 0 rfl rfl (hon 0 (by kernel_rfl)) rfl
                            replace ha := Aside0.mk ha
                            have BK269 := Aside0.mk Q0
                            have HB := Aside0.mk Q13
                            refine goes_ Tryd.func8 (by kernel_rfl) rfl #[.agg #[.int .i64 a0_0, .int .i64 a0_1]] (by rfl) rfl rfl (by first | (simp only [List.map_toArray, List.map_cons, List.map_nil, Act.eval, Array.getD_eq_getD_getElem?, Option.getD_some, e16]; done) | (simp only [List.map_toArray, List.map_cons, List.map_nil, Act.eval, Array.getD_eq_getD_getElem?, Option.getD_some, e16]; rfl)) ?_
                            with_reducible refine (xnum_Floor.calls a0_0 a0_1 t272 t273 _ ?side1 A14.out).mono ?_
                            (case side1 => first | exact HLD | exact Laid.below HLD (by repeat (first | (with_reducible first | exact HB.out | apply below_alloc | apply pw_below_drewN | apply below_drew1 | refine below_set ?_ GE269.out) | exact HB.out)))
                            rintro e w58 ⟨rfl, hb⟩
                            refine ⟨_, rfl, ?_⟩
                            have n0_ := Aside0.mk (blk_below (g := gb269) (o := .cells #[.int .i64 a0_0, .int .i64 a0_1] 24 (0, 0)) (by (with_reducible repeat (first | refine blk_drewN ?_ _ | refine blk_drew ?_ | refine blk_alloc ?_ _)); exact BK269.out) hb)
                            have n1_ := Aside0.mk (below_step (by repeat (first | (with_reducible first | exact HB.out | apply below_alloc | apply pw_below_drewN | apply below_drew1 | refine below_set ?_ GE269.out) | exact HB.out)) hb)
                            have z_BK278 := fun (h0_ : b 6 = true) (h1_ : b 9 = false) => (show w58.heap[gb278]? = some (.cells #[.int .i64 0, .int .i64 0] 24 (0, 0)) from by first | exact (blk_below (g := gb278) (o := .cells #[.int .i64 0, .int .i64 0] 24 (0, 0)) (by (with_reducible repeat (first | refine blk_drewN ?_ _ | refine blk_drew ?_ | refine blk_alloc ?_ _)); exact (Q1 h0_ h1_)) hb))
                            have z_BK279 := fun (h0_ : b 7 = true) (h1_ : b 10 = false) => (show w58.heap[gb279]? = some (.cells #[.int .i64 0, .int .i64 0] 24 (0, 0)) from by first | exact (blk_below (g := gb279) (o := .cells #[.int .i64 0, .int .i64 0] 24 (0, 0)) (by (with_reducible repeat (first | refine blk_drewN ?_ _ | refine blk_drew ?_ | refine blk_alloc ?_ _)); exact (Q3 h0_ h1_)) hb))
                            have z_BK280 := fun (h0_ : b 8 = true) (h1_ : b 11 = false) => (show w58.heap[gb280]? = some (.cells #[.int .i64 0, .int .i64 0] 24 (0, 0)) from by first | exact (blk_below (g := gb280) (o := .cells #[.int .i64 0, .int .i64 0] 24 (0, 0)) (by (with_reducible repeat (first | refine blk_drewN ?_ _ | refine blk_drew ?_ | refine blk_alloc ?_ _)); exact (Q5 h0_ h1_)) hb))
                            clear BK269
                            clear HB
                            have BK269 := n0_
                            have HB := n1_
                            clear n0_ n1_
                            (try clear hb)
                            (try clear hb2)
                            (try clear hk)
                            (try clear hi)
                            refine hK.out _ _ ⟨gb278, gb279, gb280, m6_, m7_, m8_, (by rw [ha.out]; exact putSel_upk 1 hb_ rfl rfl rfl), (by (with_reducible repeat (first | refine blk_drewN ?_ _ | refine blk_drew ?_ | refine blk_alloc ?_ _)); exact BK269.out), (by repeat (first | (with_reducible first | exact HB.out | apply below_alloc | apply pw_below_drewN | apply below_drew1 | refine below_set ?_ GE269.out) | exact HB.out)), Q21, Q18, Q24, Q19, Q25, Q22, z_BK278, Q10, Q7, Q14, Q17, z_BK279, Q11, Q8, Q15, Q20, z_BK280, Q12, Q9, Q16, Q23, fun h0_ => absurd ((hoff 9 (by kernel_rfl)).symm.trans h0_) (by decide), fun h0_ => absurd ((hoff 10 (by kernel_rfl)).symm.trans h0_) (by decide), fun h0_ => absurd ((hoff 11 (by kernel_rfl)).symm.trans h0_) (by decide), Q26, Q27, Q28⟩
                          refine steps_cons ?_ ?_
                          · rintro b a w' ⟨gb278, gb279, gb280, m6_, m7_, m8_, ha, Q0, Q13, Q21, Q18, Q24, Q19, Q25, Q22, Q1, Q10, Q7, Q14, Q17, Q3, Q11, Q8, Q15, Q20, Q5, Q12, Q9, Q16, Q23, Q2, Q4, Q6, Q26, Q27, Q28⟩ hb_ hon hoff
                            refine ⟨_, rfl, fun K hK => ?_⟩
                            have e1 : a.tmps[1]? = some (.pointer (some ⟨gb269, 0, none⟩)) := by rw [ha]; exact (putSel_off rfl).trans rfl
                            replace ha := Aside0.mk ha
                            have BK269 := Aside0.mk Q0
                            have HB := Aside0.mk Q13
                            have hc0_ : w'.cell? ⟨gb269, 0, none⟩ = some (.int .i64 a0_0) := (blk_cell BK269.out 0).trans rfl
                            have hc1_ : w'.cell? ⟨gb269, 1, none⟩ = some (.int .i64 a0_1) := (blk_cell BK269.out 1).trans rfl
                            refine value_ (w1 := w') (v := .agg #[.int .i64 a0_0, .int .i64 a0_1]) (by rfl) rfl ?_ ?_
                            · go_simp
                              (try simp only [i64_w])
                              try rfl
                            refine hK.out _ _ ⟨gb278, gb279, gb280, m6_, m7_, m8_, (by rw [ha.out]; exact putSel_upk 2 hb_ rfl rfl rfl), Q0, Q13, Q21, Q18, Q24, Q19, Q25, Q22, Q1, Q10, Q7, Q14, Q17, Q3, Q11, Q8, Q15, Q20, Q5, Q12, Q9, Q16, Q23, fun h0_ => absurd ((hoff 9 (by kernel_rfl)).symm.trans h0_) (by decide), fun h0_ => absurd ((hoff 10 (by kernel_rfl)).symm.trans h0_) (by decide), fun h0_ => absurd ((hoff 11 (by kernel_rfl)).symm.trans h0_) (by decide), Q26, Q27, Q28⟩
                          refine steps_cons ?_ ?_
                          · rintro b a w' ⟨gb278, gb279, gb280, m6_, m7_, m8_, ha, Q0, Q13, Q21, Q18, Q24, Q19, Q25, Q22, Q1, Q10, Q7, Q14, Q17, Q3, Q11, Q8, Q15, Q20, Q5, Q12, Q9, Q16, Q23, Q2, Q4, Q6, Q26, Q27, Q28⟩ hb_ hon hoff
                            refine ⟨_, rfl, fun K hK => ?_⟩
                            have e18 : a.tmps[18]? = some (.agg #[.int .i64 a0_0, .int .i64 a0_1]) := by rw [ha]; exact putSel_on (e := (2, 18, .agg #[.int .i64 a0_0, .int .i64 a0_1])) 2 rfl rfl (hon 2 (by kernel_rfl)) rfl
                            replace ha := Aside0.mk ha
                            have BK269 := Aside0.mk Q0
                            have HB := Aside0.mk Q13
                            refine goes_ Tryd.func9 (by kernel_rfl) rfl #[.agg #[.int .i64 a0_0, .int .i64 a0_1]] (by rfl) rfl rfl (by first | (simp only [List.map_toArray, List.map_cons, List.map_nil, Act.eval, Array.getD_eq_getD_getElem?, Option.getD_some, e18]; done) | (simp only [List.map_toArray, List.map_cons, List.map_nil, Act.eval, Array.getD_eq_getD_getElem?, Option.getD_some, e18]; rfl)) ?_
                            with_reducible refine (xnum_Ceiling.calls kj1 a0_0 a0_1 t274 t275 _ ?side1 A15.out).mono ?_
                            (case side1 => first | exact HLD | exact Laid.below HLD (by repeat (first | (with_reducible first | exact HB.out | apply below_alloc | apply pw_below_drewN | apply below_drew1 | refine below_set ?_ GE269.out) | exact HB.out)))
                            rintro e w60 ⟨rfl, hb⟩
                            refine ⟨_, rfl, ?_⟩
                            have n0_ := Aside0.mk (blk_below (g := gb269) (o := .cells #[.int .i64 a0_0, .int .i64 a0_1] 24 (0, 0)) (by (with_reducible repeat (first | refine blk_drewN ?_ _ | refine blk_drew ?_ | refine blk_alloc ?_ _)); exact BK269.out) hb)
                            have n1_ := Aside0.mk (below_step (by repeat (first | (with_reducible first | exact HB.out | apply below_alloc | apply pw_below_drewN | apply below_drew1 | refine below_set ?_ GE269.out) | exact HB.out)) hb)
                            have z_BK278 := fun (h0_ : b 6 = true) (h1_ : b 9 = false) => (show w60.heap[gb278]? = some (.cells #[.int .i64 0, .int .i64 0] 24 (0, 0)) from by first | exact (blk_below (g := gb278) (o := .cells #[.int .i64 0, .int .i64 0] 24 (0, 0)) (by (with_reducible repeat (first | refine blk_drewN ?_ _ | refine blk_drew ?_ | refine blk_alloc ?_ _)); exact (Q1 h0_ h1_)) hb))
                            have z_BK279 := fun (h0_ : b 7 = true) (h1_ : b 10 = false) => (show w60.heap[gb279]? = some (.cells #[.int .i64 0, .int .i64 0] 24 (0, 0)) from by first | exact (blk_below (g := gb279) (o := .cells #[.int .i64 0, .int .i64 0] 24 (0, 0)) (by (with_reducible repeat (first | refine blk_drewN ?_ _ | refine blk_drew ?_ | refine blk_alloc ?_ _)); exact (Q3 h0_ h1_)) hb))
                            have z_BK280 := fun (h0_ : b 8 = true) (h1_ : b 11 = false) => (show w60.heap[gb280]? = some (.cells #[.int .i64 0, .int .i64 0] 24 (0, 0)) from by first | exact (blk_below (g := gb280) (o := .cells #[.int .i64 0, .int .i64 0] 24 (0, 0)) (by (with_reducible repeat (first | refine blk_drewN ?_ _ | refine blk_drew ?_ | refine blk_alloc ?_ _)); exact (Q5 h0_ h1_)) hb))
                            clear BK269
                            clear HB
                            have BK269 := n0_
                            have HB := n1_
                            clear n0_ n1_
                            (try clear hb)
                            (try clear hb2)
                            (try clear hk)
                            (try clear hi)
                            refine hK.out _ _ ⟨gb278, gb279, gb280, m6_, m7_, m8_, (by rw [ha.out]; exact putSel_upk 3 hb_ rfl rfl rfl), (by (with_reducible repeat (first | refine blk_drewN ?_ _ | refine blk_drew ?_ | refine blk_alloc ?_ _)); exact BK269.out), (by repeat (first | (with_reducible first | exact HB.out | apply below_alloc | apply pw_below_drewN | apply below_drew1 | refine below_set ?_ GE269.out) | exact HB.out)), Q21, Q18, Q24, Q19, Q25, Q22, z_BK278, Q10, Q7, Q14, Q17, z_BK279, Q11, Q8, Q15, Q20, z_BK280, Q12, Q9, Q16, Q23, fun h0_ => absurd ((hoff 9 (by kernel_rfl)).symm.trans h0_) (by decide), fun h0_ => absurd ((hoff 10 (by kernel_rfl)).symm.trans h0_) (by decide), fun h0_ => absurd ((hoff 11 (by kernel_rfl)).symm.trans h0_) (by decide), Q26, Q27, Q28⟩
                          refine steps_cons ?_ ?_
                          · rintro b a w' ⟨gb278, gb279, gb280, m6_, m7_, m8_, ha, Q0, Q13, Q21, Q18, Q24, Q19, Q25, Q22, Q1, Q10, Q7, Q14, Q17, Q3, Q11, Q8, Q15, Q20, Q5, Q12, Q9, Q16, Q23, Q2, Q4, Q6, Q26, Q27, Q28⟩ hb_ hon hoff
                            refine ⟨_, rfl, fun K hK => ?_⟩
                            have e1 : a.tmps[1]? = some (.pointer (some ⟨gb269, 0, none⟩)) := by rw [ha]; exact (putSel_off rfl).trans rfl
                            replace ha := Aside0.mk ha
                            have BK269 := Aside0.mk Q0
                            have HB := Aside0.mk Q13
                            have hc0_ : w'.cell? ⟨gb269, 0, none⟩ = some (.int .i64 a0_0) := (blk_cell BK269.out 0).trans rfl
                            have hc1_ : w'.cell? ⟨gb269, 1, none⟩ = some (.int .i64 a0_1) := (blk_cell BK269.out 1).trans rfl
                            refine value_ (w1 := w') (v := .agg #[.int .i64 a0_0, .int .i64 a0_1]) (by rfl) rfl ?_ ?_
                            · go_simp
                              (try simp only [i64_w])
                              try rfl
                            refine hK.out _ _ ⟨gb278, gb279, gb280, m6_, m7_, m8_, (by rw [ha.out]; exact putSel_upk 4 hb_ rfl rfl rfl), Q0, Q13, Q21, Q18, Q24, Q19, Q25, Q22, Q1, Q10, Q7, Q14, Q17, Q3, Q11, Q8, Q15, Q20, Q5, Q12, Q9, Q16, Q23, fun h0_ => absurd ((hoff 9 (by kernel_rfl)).symm.trans h0_) (by decide), fun h0_ => absurd ((hoff 10 (by kernel_rfl)).symm.trans h0_) (by decide), fun h0_ => absurd ((hoff 11 (by kernel_rfl)).symm.trans h0_) (by decide), Q26, Q27, Q28⟩
                          refine steps_cons ?_ ?_
                          · rintro b a w' ⟨gb278, gb279, gb280, m6_, m7_, m8_, ha, Q0, Q13, Q21, Q18, Q24, Q19, Q25, Q22, Q1, Q10, Q7, Q14, Q17, Q3, Q11, Q8, Q15, Q20, Q5, Q12, Q9, Q16, Q23, Q2, Q4, Q6, Q26, Q27, Q28⟩ hb_ hon hoff
                            refine ⟨_, rfl, fun K hK => ?_⟩
                            have e20 : a.tmps[20]? = some (.agg #[.int .i64 a0_0, .int .i64 a0_1]) := by rw [ha]; exact putSel_on (e := (4, 20, .agg #[.int .i64 a0_0, .int .i64 a0_1])) 4 rfl rfl (hon 4 (by kernel_rfl)) rfl
                            replace ha := Aside0.mk ha
                            have BK269 := Aside0.mk Q0
                            have HB := Aside0.mk Q13
                            refine goes_ Tryd.func10 (by kernel_rfl) rfl #[.agg #[.int .i64 a0_0, .int .i64 a0_1]] (by rfl) rfl rfl (by first | (simp only [List.map_toArray, List.map_cons, List.map_nil, Act.eval, Array.getD_eq_getD_getElem?, Option.getD_some, e20]; done) | (simp only [List.map_toArray, List.map_cons, List.map_nil, Act.eval, Array.getD_eq_getD_getElem?, Option.getD_some, e20]; rfl)) ?_
                            with_reducible refine (xnum_Round.calls a0_0 a0_1 t276 t277 _ ?side1 A16.out).mono ?_
                            (case side1 => first | exact HLD | exact Laid.below HLD (by repeat (first | (with_reducible first | exact HB.out | apply below_alloc | apply pw_below_drewN | apply below_drew1 | refine below_set ?_ GE269.out) | exact HB.out)))
                            rintro e w61 ⟨rfl, hb⟩
                            refine ⟨_, rfl, ?_⟩
                            have n0_ := Aside0.mk (blk_below (g := gb269) (o := .cells #[.int .i64 a0_0, .int .i64 a0_1] 24 (0, 0)) (by (with_reducible repeat (first | refine blk_drewN ?_ _ | refine blk_drew ?_ | refine blk_alloc ?_ _)); exact BK269.out) hb)
                            have n1_ := Aside0.mk (below_step (by repeat (first | (with_reducible first | exact HB.out | apply below_alloc | apply pw_below_drewN | apply below_drew1 | refine below_set ?_ GE269.out) | exact HB.out)) hb)
                            have z_BK278 := fun (h0_ : b 6 = true) (h1_ : b 9 = false) => (show w61.heap[gb278]? = some (.cells #[.int .i64 0, .int .i64 0] 24 (0, 0)) from by first | exact (blk_below (g := gb278) (o := .cells #[.int .i64 0, .int .i64 0] 24 (0, 0)) (by (with_reducible repeat (first | refine blk_drewN ?_ _ | refine blk_drew ?_ | refine blk_alloc ?_ _)); exact (Q1 h0_ h1_)) hb))
                            have z_BK279 := fun (h0_ : b 7 = true) (h1_ : b 10 = false) => (show w61.heap[gb279]? = some (.cells #[.int .i64 0, .int .i64 0] 24 (0, 0)) from by first | exact (blk_below (g := gb279) (o := .cells #[.int .i64 0, .int .i64 0] 24 (0, 0)) (by (with_reducible repeat (first | refine blk_drewN ?_ _ | refine blk_drew ?_ | refine blk_alloc ?_ _)); exact (Q3 h0_ h1_)) hb))
                            have z_BK280 := fun (h0_ : b 8 = true) (h1_ : b 11 = false) => (show w61.heap[gb280]? = some (.cells #[.int .i64 0, .int .i64 0] 24 (0, 0)) from by first | exact (blk_below (g := gb280) (o := .cells #[.int .i64 0, .int .i64 0] 24 (0, 0)) (by (with_reducible repeat (first | refine blk_drewN ?_ _ | refine blk_drew ?_ | refine blk_alloc ?_ _)); exact (Q5 h0_ h1_)) hb))
                            clear BK269
                            clear HB
                            have BK269 := n0_
                            have HB := n1_
                            clear n0_ n1_
                            (try clear hb)
                            (try clear hb2)
                            (try clear hk)
                            (try clear hi)
                            refine hK.out _ _ ⟨gb278, gb279, gb280, m6_, m7_, m8_, (by rw [ha.out]; exact putSel_upk 5 hb_ rfl rfl rfl), (by (with_reducible repeat (first | refine blk_drewN ?_ _ | refine blk_drew ?_ | refine blk_alloc ?_ _)); exact BK269.out), (by repeat (first | (with_reducible first | exact HB.out | apply below_alloc | apply pw_below_drewN | apply below_drew1 | refine below_set ?_ GE269.out) | exact HB.out)), Q21, Q18, Q24, Q19, Q25, Q22, z_BK278, Q10, Q7, Q14, Q17, z_BK279, Q11, Q8, Q15, Q20, z_BK280, Q12, Q9, Q16, Q23, fun h0_ => absurd ((hoff 9 (by kernel_rfl)).symm.trans h0_) (by decide), fun h0_ => absurd ((hoff 10 (by kernel_rfl)).symm.trans h0_) (by decide), fun h0_ => absurd ((hoff 11 (by kernel_rfl)).symm.trans h0_) (by decide), Q26, Q27, Q28⟩
                          refine steps_cons ?_ ?_
                          · rintro b a w' ⟨gb278, gb279, gb280, m6_, m7_, m8_, ha, Q0, Q13, Q21, Q18, Q24, Q19, Q25, Q22, Q1, Q10, Q7, Q14, Q17, Q3, Q11, Q8, Q15, Q20, Q5, Q12, Q9, Q16, Q23, Q2, Q4, Q6, Q26, Q27, Q28⟩ hb_ hon hoff
                            refine ⟨_, rfl, fun K hK => ?_⟩
                            replace ha := Aside0.mk ha
                            have BK269 := Aside0.mk Q0
                            have HB := Aside0.mk Q13
                            refine box_step ?hg (N := 3) ?hd (cs := #[.int .i64 0, .int .i64 0]) (t := 24) ?hr ?_; (case hd => rfl); (case hg => rfl); (case hr => first | (go_simp; done) | (go_simp; rfl))
                            intro gb278 hg w58 hbox hb
                            have n0_ := Aside0.mk (blk_below (g := gb269) (o := .cells #[.int .i64 a0_0, .int .i64 a0_1] 24 (0, 0)) (by (with_reducible repeat (first | refine blk_drewN ?_ _ | refine blk_drew ?_ | refine blk_alloc ?_ _)); exact BK269.out) hb)
                            have n1_ := Aside0.mk (below_step (by repeat (first | (with_reducible first | exact HB.out | apply below_alloc | apply pw_below_drewN | apply below_drew1 | refine below_set ?_ GE269.out) | exact HB.out)) hb)
                            have n2_ := Aside0.mk (hbox)
                            have n3_ := Aside0.mk ((by rw [hg]; exact (below_size (by repeat (first | (with_reducible first | exact HB.out | apply below_alloc | apply pw_below_drewN | apply below_drew1 | refine below_set ?_ GE269.out) | exact HB.out))) : w.heap.size ≤ gb278))
                            have n4_ := Aside0.mk ((by rw [hg]; exact (below_size (by repeat (first | (with_reducible first | exact HB.out | apply below_alloc | apply pw_below_drewN | apply below_drew1 | refine below_set ?_ GE269.out) | exact HB.out))) : w.heap.size ≤ gb278))
                            have n5_ := Aside0.mk ((by rw [hg]; exact Nat.ne_of_lt (blk_lt (g := gb269) (o := .cells #[.int .i64 a0_0, .int .i64 a0_1] 24 (0, 0)) (by (with_reducible repeat (first | refine blk_drewN ?_ _ | refine blk_drew ?_ | refine blk_alloc ?_ _)); exact BK269.out)) : gb269 ≠ gb278))
                            have n6_ := Aside0.mk ((by rw [hg]; exact Nat.ne_of_gt (blk_lt (g := gb269) (o := .cells #[.int .i64 a0_0, .int .i64 a0_1] 24 (0, 0)) (by (with_reducible repeat (first | refine blk_drewN ?_ _ | refine blk_drew ?_ | refine blk_alloc ?_ _)); exact BK269.out)) : gb278 ≠ gb269))
                            have z_NB279_278 := fun (h0_ : up b 6 6 = true) (h1_ : up b 6 7 = true) => (show gb279 ≠ gb278 from ((by rw [hg]; exact Nat.ne_of_lt (blk_lt (g := gb279) (o := .cells #[.int .i64 0, .int .i64 0] 24 (0, 0)) (by (with_reducible repeat (first | refine blk_drewN ?_ _ | refine blk_drew ?_ | refine blk_alloc ?_ _)); exact (Q3 (show b 7 = true from h1_) (hoff 10 (by kernel_rfl))))) : gb279 ≠ gb278)))
                            have z_NB278_279 := fun (h0_ : up b 6 6 = true) (h1_ : up b 6 7 = true) => (show gb278 ≠ gb279 from ((by rw [hg]; exact Nat.ne_of_gt (blk_lt (g := gb279) (o := .cells #[.int .i64 0, .int .i64 0] 24 (0, 0)) (by (with_reducible repeat (first | refine blk_drewN ?_ _ | refine blk_drew ?_ | refine blk_alloc ?_ _)); exact (Q3 (show b 7 = true from h1_) (hoff 10 (by kernel_rfl))))) : gb278 ≠ gb279)))
                            have z_NB280_278 := fun (h0_ : up b 6 6 = true) (h1_ : up b 6 8 = true) => (show gb280 ≠ gb278 from ((by rw [hg]; exact Nat.ne_of_lt (blk_lt (g := gb280) (o := .cells #[.int .i64 0, .int .i64 0] 24 (0, 0)) (by (with_reducible repeat (first | refine blk_drewN ?_ _ | refine blk_drew ?_ | refine blk_alloc ?_ _)); exact (Q5 (show b 8 = true from h1_) (hoff 11 (by kernel_rfl))))) : gb280 ≠ gb278)))
                            have z_NB278_280 := fun (h0_ : up b 6 6 = true) (h1_ : up b 6 8 = true) => (show gb278 ≠ gb280 from ((by rw [hg]; exact Nat.ne_of_gt (blk_lt (g := gb280) (o := .cells #[.int .i64 0, .int .i64 0] 24 (0, 0)) (by (with_reducible repeat (first | refine blk_drewN ?_ _ | refine blk_drew ?_ | refine blk_alloc ?_ _)); exact (Q5 (show b 8 = true from h1_) (hoff 11 (by kernel_rfl))))) : gb278 ≠ gb280)))
                            have z_BK279 := fun (h0_ : b 7 = true) (h1_ : b 10 = false) => (show w58.heap[gb279]? = some (.cells #[.int .i64 0, .int .i64 0] 24 (0, 0)) from by first | exact (blk_below (g := gb279) (o := .cells #[.int .i64 0, .int .i64 0] 24 (0, 0)) (by (with_reducible repeat (first | refine blk_drewN ?_ _ | refine blk_drew ?_ | refine blk_alloc ?_ _)); exact (Q3 h0_ h1_)) hb))
                            have z_BK280 := fun (h0_ : b 8 = true) (h1_ : b 11 = false) => (show w58.heap[gb280]? = some (.cells #[.int .i64 0, .int .i64 0] 24 (0, 0)) from by first | exact (blk_below (g := gb280) (o := .cells #[.int .i64 0, .int .i64 0] 24 (0, 0)) (by (with_reducible repeat (first | refine blk_drewN ?_ _ | refine blk_drew ?_ | refine blk_alloc ?_ _)); exact (Q5 h0_ h1_)) hb))
                            clear BK269
                            clear HB
                            have BK269 := n0_
                            have HB := n1_
                            have BK278 := n2_
                            have GW278 := n3_
                            have GE278 := n4_
                            have NB269_278 := n5_
                            have NB278_269 := n6_
                            clear n0_ n1_ n2_ n3_ n4_ n5_ n6_
                            clear hb hbox hg
                            refine hK.out _ _ ⟨gb278, gb279, gb280, (.pointer (some ⟨gb278, 0, none⟩)), m7_, m8_, (by rw [ha.out]; exact putSel_upk 6 hb_ rfl rfl rfl), (by (with_reducible repeat (first | refine blk_drewN ?_ _ | refine blk_drew ?_ | refine blk_alloc ?_ _)); exact BK269.out), (by repeat (first | (with_reducible first | exact HB.out | apply below_alloc | apply pw_below_drewN | apply below_drew1 | refine below_set ?_ GE269.out | refine below_set ?_ GE278.out) | exact HB.out)), @z_NB279_278, @z_NB278_279, @z_NB280_278, @z_NB278_280, Q25, Q22, fun _ _ => (by (with_reducible repeat (first | refine blk_drewN ?_ _ | refine blk_drew ?_ | refine blk_alloc ?_ _)); exact BK278.out), fun _ => GW278.out, fun _ => GE278.out, fun _ => NB269_278.out, fun _ => NB278_269.out, z_BK279, Q11, Q8, Q15, Q20, z_BK280, Q12, Q9, Q16, Q23, fun h0_ => absurd ((hoff 9 (by kernel_rfl)).symm.trans h0_) (by decide), fun h0_ => absurd ((hoff 10 (by kernel_rfl)).symm.trans h0_) (by decide), fun h0_ => absurd ((hoff 11 (by kernel_rfl)).symm.trans h0_) (by decide), fun _ => rfl, Q27, Q28⟩
                          refine steps_cons ?_ ?_
                          · rintro b a w' ⟨gb278, gb279, gb280, m6_, m7_, m8_, ha, Q0, Q13, Q21, Q18, Q24, Q19, Q25, Q22, Q1, Q10, Q7, Q14, Q17, Q3, Q11, Q8, Q15, Q20, Q5, Q12, Q9, Q16, Q23, Q2, Q4, Q6, Q26, Q27, Q28⟩ hb_ hon hoff
                            refine ⟨_, rfl, fun K hK => ?_⟩
                            replace ha := Aside0.mk ha
                            have BK269 := Aside0.mk Q0
                            have HB := Aside0.mk Q13
                            refine box_step ?hg (N := 4) ?hd (cs := #[.int .i64 0, .int .i64 0]) (t := 24) ?hr ?_; (case hd => rfl); (case hg => rfl); (case hr => first | (go_simp; done) | (go_simp; rfl))
                            intro gb279 hg w58 hbox hb
                            have n0_ := Aside0.mk (blk_below (g := gb269) (o := .cells #[.int .i64 a0_0, .int .i64 a0_1] 24 (0, 0)) (by (with_reducible repeat (first | refine blk_drewN ?_ _ | refine blk_drew ?_ | refine blk_alloc ?_ _)); exact BK269.out) hb)
                            have n1_ := Aside0.mk (below_step (by repeat (first | (with_reducible first | exact HB.out | apply below_alloc | apply pw_below_drewN | apply below_drew1 | refine below_set ?_ GE269.out) | exact HB.out)) hb)
                            have n2_ := Aside0.mk (hbox)
                            have n3_ := Aside0.mk ((by rw [hg]; exact (below_size (by repeat (first | (with_reducible first | exact HB.out | apply below_alloc | apply pw_below_drewN | apply below_drew1 | refine below_set ?_ GE269.out) | exact HB.out))) : w.heap.size ≤ gb279))
                            have n4_ := Aside0.mk ((by rw [hg]; exact (below_size (by repeat (first | (with_reducible first | exact HB.out | apply below_alloc | apply pw_below_drewN | apply below_drew1 | refine below_set ?_ GE269.out) | exact HB.out))) : w.heap.size ≤ gb279))
                            have n5_ := Aside0.mk ((by rw [hg]; exact Nat.ne_of_lt (blk_lt (g := gb269) (o := .cells #[.int .i64 a0_0, .int .i64 a0_1] 24 (0, 0)) (by (with_reducible repeat (first | refine blk_drewN ?_ _ | refine blk_drew ?_ | refine blk_alloc ?_ _)); exact BK269.out)) : gb269 ≠ gb279))
                            have n6_ := Aside0.mk ((by rw [hg]; exact Nat.ne_of_gt (blk_lt (g := gb269) (o := .cells #[.int .i64 a0_0, .int .i64 a0_1] 24 (0, 0)) (by (with_reducible repeat (first | refine blk_drewN ?_ _ | refine blk_drew ?_ | refine blk_alloc ?_ _)); exact BK269.out)) : gb279 ≠ gb269))
                            have z_NB279_278 := fun (h0_ : up b 7 6 = true) (h1_ : up b 7 7 = true) => (show gb279 ≠ gb278 from ((by rw [hg]; exact Nat.ne_of_gt (blk_lt (g := gb278) (o := .cells #[.int .i64 0, .int .i64 0] 24 (0, 0)) (by (with_reducible repeat (first | refine blk_drewN ?_ _ | refine blk_drew ?_ | refine blk_alloc ?_ _)); exact (Q1 (show b 6 = true from h0_) (hoff 9 (by kernel_rfl))))) : gb279 ≠ gb278)))
                            have z_NB278_279 := fun (h0_ : up b 7 6 = true) (h1_ : up b 7 7 = true) => (show gb278 ≠ gb279 from ((by rw [hg]; exact Nat.ne_of_lt (blk_lt (g := gb278) (o := .cells #[.int .i64 0, .int .i64 0] 24 (0, 0)) (by (with_reducible repeat (first | refine blk_drewN ?_ _ | refine blk_drew ?_ | refine blk_alloc ?_ _)); exact (Q1 (show b 6 = true from h0_) (hoff 9 (by kernel_rfl))))) : gb278 ≠ gb279)))
                            have z_NB280_279 := fun (h0_ : up b 7 7 = true) (h1_ : up b 7 8 = true) => (show gb280 ≠ gb279 from ((by rw [hg]; exact Nat.ne_of_lt (blk_lt (g := gb280) (o := .cells #[.int .i64 0, .int .i64 0] 24 (0, 0)) (by (with_reducible repeat (first | refine blk_drewN ?_ _ | refine blk_drew ?_ | refine blk_alloc ?_ _)); exact (Q5 (show b 8 = true from h1_) (hoff 11 (by kernel_rfl))))) : gb280 ≠ gb279)))
                            have z_NB279_280 := fun (h0_ : up b 7 7 = true) (h1_ : up b 7 8 = true) => (show gb279 ≠ gb280 from ((by rw [hg]; exact Nat.ne_of_gt (blk_lt (g := gb280) (o := .cells #[.int .i64 0, .int .i64 0] 24 (0, 0)) (by (with_reducible repeat (first | refine blk_drewN ?_ _ | refine blk_drew ?_ | refine blk_alloc ?_ _)); exact (Q5 (show b 8 = true from h1_) (hoff 11 (by kernel_rfl))))) : gb279 ≠ gb280)))
                            have z_BK278 := fun (h0_ : b 6 = true) (h1_ : b 9 = false) => (show w58.heap[gb278]? = some (.cells #[.int .i64 0, .int .i64 0] 24 (0, 0)) from by first | exact (blk_below (g := gb278) (o := .cells #[.int .i64 0, .int .i64 0] 24 (0, 0)) (by (with_reducible repeat (first | refine blk_drewN ?_ _ | refine blk_drew ?_ | refine blk_alloc ?_ _)); exact (Q1 h0_ h1_)) hb))
                            have z_BK280 := fun (h0_ : b 8 = true) (h1_ : b 11 = false) => (show w58.heap[gb280]? = some (.cells #[.int .i64 0, .int .i64 0] 24 (0, 0)) from by first | exact (blk_below (g := gb280) (o := .cells #[.int .i64 0, .int .i64 0] 24 (0, 0)) (by (with_reducible repeat (first | refine blk_drewN ?_ _ | refine blk_drew ?_ | refine blk_alloc ?_ _)); exact (Q5 h0_ h1_)) hb))
                            clear BK269
                            clear HB
                            have BK269 := n0_
                            have HB := n1_
                            have BK279 := n2_
                            have GW279 := n3_
                            have GE279 := n4_
                            have NB269_279 := n5_
                            have NB279_269 := n6_
                            clear n0_ n1_ n2_ n3_ n4_ n5_ n6_
                            clear hb hbox hg
                            refine hK.out _ _ ⟨gb278, gb279, gb280, m6_, (.pointer (some ⟨gb279, 0, none⟩)), m8_, (by rw [ha.out]; exact putSel_upk 7 hb_ rfl rfl rfl), (by (with_reducible repeat (first | refine blk_drewN ?_ _ | refine blk_drew ?_ | refine blk_alloc ?_ _)); exact BK269.out), (by repeat (first | (with_reducible first | exact HB.out | apply below_alloc | apply pw_below_drewN | apply below_drew1 | refine below_set ?_ GE269.out | refine below_set ?_ GE279.out) | exact HB.out)), @z_NB279_278, @z_NB278_279, Q24, Q19, @z_NB280_279, @z_NB279_280, z_BK278, Q10, Q7, Q14, Q17, fun _ _ => (by (with_reducible repeat (first | refine blk_drewN ?_ _ | refine blk_drew ?_ | refine blk_alloc ?_ _)); exact BK279.out), fun _ => GW279.out, fun _ => GE279.out, fun _ => NB269_279.out, fun _ => NB279_269.out, z_BK280, Q12, Q9, Q16, Q23, fun h0_ => absurd ((hoff 9 (by kernel_rfl)).symm.trans h0_) (by decide), fun h0_ => absurd ((hoff 10 (by kernel_rfl)).symm.trans h0_) (by decide), fun h0_ => absurd ((hoff 11 (by kernel_rfl)).symm.trans h0_) (by decide), Q26, fun _ => rfl, Q28⟩
                          refine steps_cons ?_ ?_
                          · rintro b a w' ⟨gb278, gb279, gb280, m6_, m7_, m8_, ha, Q0, Q13, Q21, Q18, Q24, Q19, Q25, Q22, Q1, Q10, Q7, Q14, Q17, Q3, Q11, Q8, Q15, Q20, Q5, Q12, Q9, Q16, Q23, Q2, Q4, Q6, Q26, Q27, Q28⟩ hb_ hon hoff
                            refine ⟨_, rfl, fun K hK => ?_⟩
                            replace ha := Aside0.mk ha
                            have BK269 := Aside0.mk Q0
                            have HB := Aside0.mk Q13
                            refine box_step ?hg (N := 5) ?hd (cs := #[.int .i64 0, .int .i64 0]) (t := 24) ?hr ?_; (case hd => rfl); (case hg => rfl); (case hr => first | (go_simp; done) | (go_simp; rfl))
                            intro gb280 hg w58 hbox hb
                            have n0_ := Aside0.mk (blk_below (g := gb269) (o := .cells #[.int .i64 a0_0, .int .i64 a0_1] 24 (0, 0)) (by (with_reducible repeat (first | refine blk_drewN ?_ _ | refine blk_drew ?_ | refine blk_alloc ?_ _)); exact BK269.out) hb)
                            have n1_ := Aside0.mk (below_step (by repeat (first | (with_reducible first | exact HB.out | apply below_alloc | apply pw_below_drewN | apply below_drew1 | refine below_set ?_ GE269.out) | exact HB.out)) hb)
                            have n2_ := Aside0.mk (hbox)
                            have n3_ := Aside0.mk ((by rw [hg]; exact (below_size (by repeat (first | (with_reducible first | exact HB.out | apply below_alloc | apply pw_below_drewN | apply below_drew1 | refine below_set ?_ GE269.out) | exact HB.out))) : w.heap.size ≤ gb280))
                            have n4_ := Aside0.mk ((by rw [hg]; exact (below_size (by repeat (first | (with_reducible first | exact HB.out | apply below_alloc | apply pw_below_drewN | apply below_drew1 | refine below_set ?_ GE269.out) | exact HB.out))) : w.heap.size ≤ gb280))
                            have n5_ := Aside0.mk ((by rw [hg]; exact Nat.ne_of_lt (blk_lt (g := gb269) (o := .cells #[.int .i64 a0_0, .int .i64 a0_1] 24 (0, 0)) (by (with_reducible repeat (first | refine blk_drewN ?_ _ | refine blk_drew ?_ | refine blk_alloc ?_ _)); exact BK269.out)) : gb269 ≠ gb280))
                            have n6_ := Aside0.mk ((by rw [hg]; exact Nat.ne_of_gt (blk_lt (g := gb269) (o := .cells #[.int .i64 a0_0, .int .i64 a0_1] 24 (0, 0)) (by (with_reducible repeat (first | refine blk_drewN ?_ _ | refine blk_drew ?_ | refine blk_alloc ?_ _)); exact BK269.out)) : gb280 ≠ gb269))
                            have z_NB280_278 := fun (h0_ : up b 8 6 = true) (h1_ : up b 8 8 = true) => (show gb280 ≠ gb278 from ((by rw [hg]; exact Nat.ne_of_gt (blk_lt (g := gb278) (o := .cells #[.int .i64 0, .int .i64 0] 24 (0, 0)) (by (with_reducible repeat (first | refine blk_drewN ?_ _ | refine blk_drew ?_ | refine blk_alloc ?_ _)); exact (Q1 (show b 6 = true from h0_) (hoff 9 (by kernel_rfl))))) : gb280 ≠ gb278)))
                            have z_NB278_280 := fun (h0_ : up b 8 6 = true) (h1_ : up b 8 8 = true) => (show gb278 ≠ gb280 from ((by rw [hg]; exact Nat.ne_of_lt (blk_lt (g := gb278) (o := .cells #[.int .i64 0, .int .i64 0] 24 (0, 0)) (by (with_reducible repeat (first | refine blk_drewN ?_ _ | refine blk_drew ?_ | refine blk_alloc ?_ _)); exact (Q1 (show b 6 = true from h0_) (hoff 9 (by kernel_rfl))))) : gb278 ≠ gb280)))
                            have z_NB280_279 := fun (h0_ : up b 8 7 = true) (h1_ : up b 8 8 = true) => (show gb280 ≠ gb279 from ((by rw [hg]; exact Nat.ne_of_gt (blk_lt (g := gb279) (o := .cells #[.int .i64 0, .int .i64 0] 24 (0, 0)) (by (with_reducible repeat (first | refine blk_drewN ?_ _ | refine blk_drew ?_ | refine blk_alloc ?_ _)); exact (Q3 (show b 7 = true from h0_) (hoff 10 (by kernel_rfl))))) : gb280 ≠ gb279)))
                            have z_NB279_280 := fun (h0_ : up b 8 7 = true) (h1_ : up b 8 8 = true) => (show gb279 ≠ gb280 from ((by rw [hg]; exact Nat.ne_of_lt (blk_lt (g := gb279) (o := .cells #[.int .i64 0, .int .i64 0] 24 (0, 0)) (by (with_reducible repeat (first | refine blk_drewN ?_ _ | refine blk_drew ?_ | refine blk_alloc ?_ _)); exact (Q3 (show b 7 = true from h0_) (hoff 10 (by kernel_rfl))))) : gb279 ≠ gb280)))
                            have z_BK278 := fun (h0_ : b 6 = true) (h1_ : b 9 = false) => (show w58.heap[gb278]? = some (.cells #[.int .i64 0, .int .i64 0] 24 (0, 0)) from by first | exact (blk_below (g := gb278) (o := .cells #[.int .i64 0, .int .i64 0] 24 (0, 0)) (by (with_reducible repeat (first | refine blk_drewN ?_ _ | refine blk_drew ?_ | refine blk_alloc ?_ _)); exact (Q1 h0_ h1_)) hb))
                            have z_BK279 := fun (h0_ : b 7 = true) (h1_ : b 10 = false) => (show w58.heap[gb279]? = some (.cells #[.int .i64 0, .int .i64 0] 24 (0, 0)) from by first | exact (blk_below (g := gb279) (o := .cells #[.int .i64 0, .int .i64 0] 24 (0, 0)) (by (with_reducible repeat (first | refine blk_drewN ?_ _ | refine blk_drew ?_ | refine blk_alloc ?_ _)); exact (Q3 h0_ h1_)) hb))
                            clear BK269
                            clear HB
                            have BK269 := n0_
                            have HB := n1_
                            have BK280 := n2_
                            have GW280 := n3_
                            have GE280 := n4_
                            have NB269_280 := n5_
                            have NB280_269 := n6_
                            clear n0_ n1_ n2_ n3_ n4_ n5_ n6_
                            clear hb hbox hg
                            refine hK.out _ _ ⟨gb278, gb279, gb280, m6_, m7_, (.pointer (some ⟨gb280, 0, none⟩)), (by rw [ha.out]; exact putSel_upk 8 hb_ rfl rfl rfl), (by (with_reducible repeat (first | refine blk_drewN ?_ _ | refine blk_drew ?_ | refine blk_alloc ?_ _)); exact BK269.out), (by repeat (first | (with_reducible first | exact HB.out | apply below_alloc | apply pw_below_drewN | apply below_drew1 | refine below_set ?_ GE269.out | refine below_set ?_ GE280.out) | exact HB.out)), Q21, Q18, @z_NB280_278, @z_NB278_280, @z_NB280_279, @z_NB279_280, z_BK278, Q10, Q7, Q14, Q17, z_BK279, Q11, Q8, Q15, Q20, fun _ _ => (by (with_reducible repeat (first | refine blk_drewN ?_ _ | refine blk_drew ?_ | refine blk_alloc ?_ _)); exact BK280.out), fun _ => GW280.out, fun _ => GE280.out, fun _ => NB269_280.out, fun _ => NB280_269.out, fun h0_ => absurd ((hoff 9 (by kernel_rfl)).symm.trans h0_) (by decide), fun h0_ => absurd ((hoff 10 (by kernel_rfl)).symm.trans h0_) (by decide), fun h0_ => absurd ((hoff 11 (by kernel_rfl)).symm.trans h0_) (by decide), Q26, Q27, fun _ => rfl⟩
                          refine steps_cons ?_ ?_
                          · rintro b a w' ⟨gb278, gb279, gb280, m6_, m7_, m8_, ha, Q0, Q13, Q21, Q18, Q24, Q19, Q25, Q22, Q1, Q10, Q7, Q14, Q17, Q3, Q11, Q8, Q15, Q20, Q5, Q12, Q9, Q16, Q23, Q2, Q4, Q6, Q26, Q27, Q28⟩ hb_ hon hoff
                            refine ⟨_, rfl, fun K hK => ?_⟩
                            have e3 : a.tmps[3]? = some (m6_) := by rw [ha]; exact putSel_on (e := (6, 3, m6_)) 6 rfl rfl (hon 6 (by kernel_rfl)) rfl
                            rw [Q26 (hon 6 (by kernel_rfl))] at e3
                            have e17 : a.tmps[17]? = some (.agg #[.int .i64 t272, .int .i64 t273]) := by rw [ha]; exact putSel_on (e := (1, 17, .agg #[.int .i64 t272, .int .i64 t273])) 1 rfl rfl (hon 1 (by kernel_rfl)) rfl
                            replace ha := Aside0.mk ha
                            have BK269 := Aside0.mk Q0
                            have HB := Aside0.mk Q13
                            have NB279_278 := Aside0.mk (Q21 (hon 6 (by kernel_rfl)) (hon 7 (by kernel_rfl)))
                            have NB278_279 := Aside0.mk (Q18 (hon 6 (by kernel_rfl)) (hon 7 (by kernel_rfl)))
                            have NB280_278 := Aside0.mk (Q24 (hon 6 (by kernel_rfl)) (hon 8 (by kernel_rfl)))
                            have NB278_280 := Aside0.mk (Q19 (hon 6 (by kernel_rfl)) (hon 8 (by kernel_rfl)))
                            have NB280_279 := Aside0.mk (Q25 (hon 7 (by kernel_rfl)) (hon 8 (by kernel_rfl)))
                            have NB279_280 := Aside0.mk (Q22 (hon 7 (by kernel_rfl)) (hon 8 (by kernel_rfl)))
                            have BK278 := Aside0.mk (Q1 (hon 6 (by kernel_rfl)) hb_)
                            have GW278 := Aside0.mk (Q10 (hon 6 (by kernel_rfl)))
                            have GE278 := Aside0.mk (Q7 (hon 6 (by kernel_rfl)))
                            have NB269_278 := Aside0.mk (Q14 (hon 6 (by kernel_rfl)))
                            have NB278_269 := Aside0.mk (Q17 (hon 6 (by kernel_rfl)))
                            have BK279 := Aside0.mk (Q3 (hon 7 (by kernel_rfl)) (hoff 10 (by kernel_rfl)))
                            have GW279 := Aside0.mk (Q11 (hon 7 (by kernel_rfl)))
                            have GE279 := Aside0.mk (Q8 (hon 7 (by kernel_rfl)))
                            have NB269_279 := Aside0.mk (Q15 (hon 7 (by kernel_rfl)))
                            have NB279_269 := Aside0.mk (Q20 (hon 7 (by kernel_rfl)))
                            have BK280 := Aside0.mk (Q5 (hon 8 (by kernel_rfl)) (hoff 11 (by kernel_rfl)))
                            have GW280 := Aside0.mk (Q12 (hon 8 (by kernel_rfl)))
                            have GE280 := Aside0.mk (Q9 (hon 8 (by kernel_rfl)))
                            have NB269_280 := Aside0.mk (Q16 (hon 8 (by kernel_rfl)))
                            have NB280_269 := Aside0.mk (Q23 (hon 8 (by kernel_rfl)))
                            have hs65 : w'.cell? ⟨gb278, 0, none⟩ = some (.int .i64 0) := (blk_cell BK278.out 0).trans rfl
                            have hfs65 := blk_frozen BK278.out 0
                            have hns65_0 := NB269_278.out
                            have hns65_2 := NB279_278.out
                            have hns65_3 := NB280_278.out
                            have hms65_0 := NB278_269.out
                            have hms65_2 := NB278_279.out
                            have hms65_3 := NB278_280.out
                            have hs66 : w'.cell? ⟨gb278, 1, none⟩ = some (.int .i64 0) := (blk_cell BK278.out 1).trans rfl
                            have hfs66 := blk_frozen BK278.out 1
                            have hns66_0 := NB269_278.out
                            have hns66_2 := NB279_278.out
                            have hns66_3 := NB280_278.out
                            have hms66_0 := NB278_269.out
                            have hms66_2 := NB278_279.out
                            have hms66_3 := NB278_280.out
                            refine skip_ (w1 := ?_) (by rfl) rfl ?_ ?_
                            rotate_left
                            · go_simp
                              rfl
                            refine hK.out _ _ ⟨gb278, gb279, gb280, m6_, m7_, m8_, (by rw [ha.out]; exact putSel_none (v := undef) rfl), (by (with_reducible repeat (first | refine blk_drewN ?_ _ | refine blk_drew ?_ | refine blk_alloc ?_ _)); refine blk_far ?_ NB269_278.out _; (with_reducible repeat (first | refine blk_drewN ?_ _ | refine blk_drew ?_ | refine blk_alloc ?_ _)); refine blk_far ?_ NB269_278.out _; (with_reducible repeat (first | refine blk_drewN ?_ _ | refine blk_drew ?_ | refine blk_alloc ?_ _)); exact BK269.out), (by repeat (first | (with_reducible first | exact HB.out | apply below_alloc | apply pw_below_drewN | apply below_drew1 | refine below_set ?_ GE269.out | refine below_set ?_ GE278.out | refine below_set ?_ GE279.out | refine below_set ?_ GE280.out) | exact HB.out)), fun _ _ => NB279_278.out, fun _ _ => NB278_279.out, fun _ _ => NB280_278.out, fun _ _ => NB278_280.out, fun _ _ => NB280_279.out, fun _ _ => NB279_280.out, fun _ h1_ => absurd ((up_self b 9).symm.trans h1_) (by decide), fun _ => GW278.out, fun _ => GE278.out, fun _ => NB269_278.out, fun _ => NB278_269.out, fun _ _ => (by (with_reducible repeat (first | refine blk_drewN ?_ _ | refine blk_drew ?_ | refine blk_alloc ?_ _)); refine blk_far ?_ NB279_278.out _; (with_reducible repeat (first | refine blk_drewN ?_ _ | refine blk_drew ?_ | refine blk_alloc ?_ _)); refine blk_far ?_ NB279_278.out _; (with_reducible repeat (first | refine blk_drewN ?_ _ | refine blk_drew ?_ | refine blk_alloc ?_ _)); exact BK279.out), fun _ => GW279.out, fun _ => GE279.out, fun _ => NB269_279.out, fun _ => NB279_269.out, fun _ _ => (by (with_reducible repeat (first | refine blk_drewN ?_ _ | refine blk_drew ?_ | refine blk_alloc ?_ _)); refine blk_far ?_ NB280_278.out _; (with_reducible repeat (first | refine blk_drewN ?_ _ | refine blk_drew ?_ | refine blk_alloc ?_ _)); refine blk_far ?_ NB280_278.out _; (with_reducible repeat (first | refine blk_drewN ?_ _ | refine blk_drew ?_ | refine blk_alloc ?_ _)); exact BK280.out), fun _ => GW280.out, fun _ => GE280.out, fun _ => NB269_280.out, fun _ => NB280_269.out, fun _ => (by (with_reducible repeat (first | refine blk_drewN ?_ _ | refine blk_drew ?_ | refine blk_alloc ?_ _)); refine blk_put (cs := #[.int .i64 t272, .int .i64 0]) ?_ 1 _ rfl; (with_reducible repeat (first | refine blk_drewN ?_ _ | refine blk_drew ?_ | refine blk_alloc ?_ _)); refine blk_put (cs := #[.int .i64 0, .int .i64 0]) ?_ 0 _ rfl; (with_reducible repeat (first | refine blk_drewN ?_ _ | refine blk_drew ?_ | refine blk_alloc ?_ _)); exact BK278.out), fun h0_ => absurd ((hoff 10 (by kernel_rfl)).symm.trans h0_) (by decide), fun h0_ => absurd ((hoff 11 (by kernel_rfl)).symm.trans h0_) (by decide), Q26, Q27, Q28⟩
                          refine steps_cons ?_ ?_
                          · rintro b a w' ⟨gb278, gb279, gb280, m6_, m7_, m8_, ha, Q0, Q13, Q21, Q18, Q24, Q19, Q25, Q22, Q1, Q10, Q7, Q14, Q17, Q3, Q11, Q8, Q15, Q20, Q5, Q12, Q9, Q16, Q23, Q2, Q4, Q6, Q26, Q27, Q28⟩ hb_ hon hoff
                            refine ⟨_, rfl, fun K hK => ?_⟩
                            have e4 : a.tmps[4]? = some (m7_) := by rw [ha]; exact putSel_on (e := (7, 4, m7_)) 7 rfl rfl (hon 7 (by kernel_rfl)) rfl
                            rw [Q27 (hon 7 (by kernel_rfl))] at e4
                            have e19 : a.tmps[19]? = some (.agg #[.int .i64 t274, .int .i64 t275]) := by rw [ha]; exact putSel_on (e := (3, 19, .agg #[.int .i64 t274, .int .i64 t275])) 3 rfl rfl (hon 3 (by kernel_rfl)) rfl
                            replace ha := Aside0.mk ha
                            have BK269 := Aside0.mk Q0
                            have HB := Aside0.mk Q13
                            have NB279_278 := Aside0.mk (Q21 (hon 6 (by kernel_rfl)) (hon 7 (by kernel_rfl)))
                            have NB278_279 := Aside0.mk (Q18 (hon 6 (by kernel_rfl)) (hon 7 (by kernel_rfl)))
                            have NB280_278 := Aside0.mk (Q24 (hon 6 (by kernel_rfl)) (hon 8 (by kernel_rfl)))
                            have NB278_280 := Aside0.mk (Q19 (hon 6 (by kernel_rfl)) (hon 8 (by kernel_rfl)))
                            have NB280_279 := Aside0.mk (Q25 (hon 7 (by kernel_rfl)) (hon 8 (by kernel_rfl)))
                            have NB279_280 := Aside0.mk (Q22 (hon 7 (by kernel_rfl)) (hon 8 (by kernel_rfl)))
                            have GW278 := Aside0.mk (Q10 (hon 6 (by kernel_rfl)))
                            have GE278 := Aside0.mk (Q7 (hon 6 (by kernel_rfl)))
                            have NB269_278 := Aside0.mk (Q14 (hon 6 (by kernel_rfl)))
                            have NB278_269 := Aside0.mk (Q17 (hon 6 (by kernel_rfl)))
                            have BK279 := Aside0.mk (Q3 (hon 7 (by kernel_rfl)) hb_)
                            have GW279 := Aside0.mk (Q11 (hon 7 (by kernel_rfl)))
                            have GE279 := Aside0.mk (Q8 (hon 7 (by kernel_rfl)))
                            have NB269_279 := Aside0.mk (Q15 (hon 7 (by kernel_rfl)))
                            have NB279_269 := Aside0.mk (Q20 (hon 7 (by kernel_rfl)))
                            have BK280 := Aside0.mk (Q5 (hon 8 (by kernel_rfl)) (hoff 11 (by kernel_rfl)))
                            have GW280 := Aside0.mk (Q12 (hon 8 (by kernel_rfl)))
                            have GE280 := Aside0.mk (Q9 (hon 8 (by kernel_rfl)))
                            have NB269_280 := Aside0.mk (Q16 (hon 8 (by kernel_rfl)))
                            have NB280_269 := Aside0.mk (Q23 (hon 8 (by kernel_rfl)))
                            have BK278 := Aside0.mk (Q2 (hon 9 (by kernel_rfl)))
                            have hs67 : w'.cell? ⟨gb279, 0, none⟩ = some (.int .i64 0) := (blk_cell BK279.out 0).trans rfl
                            have hfs67 := blk_frozen BK279.out 0
                            have hns67_0 := NB269_279.out
                            have hns67_1 := NB278_279.out
                            have hns67_3 := NB280_279.out
                            have hms67_0 := NB279_269.out
                            have hms67_1 := NB279_278.out
                            have hms67_3 := NB279_280.out
                            have hs68 : w'.cell? ⟨gb279, 1, none⟩ = some (.int .i64 0) := (blk_cell BK279.out 1).trans rfl
                            have hfs68 := blk_frozen BK279.out 1
                            have hns68_0 := NB269_279.out
                            have hns68_1 := NB278_279.out
                            have hns68_3 := NB280_279.out
                            have hms68_0 := NB279_269.out
                            have hms68_1 := NB279_278.out
                            have hms68_3 := NB279_280.out
                            refine skip_ (w1 := ?_) (by rfl) rfl ?_ ?_
                            rotate_left
                            · go_simp
                              rfl
                            refine hK.out _ _ ⟨gb278, gb279, gb280, m6_, m7_, m8_, (by rw [ha.out]; exact putSel_none (v := undef) rfl), (by (with_reducible repeat (first | refine blk_drewN ?_ _ | refine blk_drew ?_ | refine blk_alloc ?_ _)); refine blk_far ?_ NB269_279.out _; (with_reducible repeat (first | refine blk_drewN ?_ _ | refine blk_drew ?_ | refine blk_alloc ?_ _)); refine blk_far ?_ NB269_279.out _; (with_reducible repeat (first | refine blk_drewN ?_ _ | refine blk_drew ?_ | refine blk_alloc ?_ _)); exact BK269.out), (by repeat (first | (with_reducible first | exact HB.out | apply below_alloc | apply pw_below_drewN | apply below_drew1 | refine below_set ?_ GE269.out | refine below_set ?_ GE278.out | refine below_set ?_ GE279.out | refine below_set ?_ GE280.out) | exact HB.out)), fun _ _ => NB279_278.out, fun _ _ => NB278_279.out, fun _ _ => NB280_278.out, fun _ _ => NB278_280.out, fun _ _ => NB280_279.out, fun _ _ => NB279_280.out, fun _ h1_ => absurd ((hon 9 (by kernel_rfl)).symm.trans h1_) (by decide), fun _ => GW278.out, fun _ => GE278.out, fun _ => NB269_278.out, fun _ => NB278_269.out, fun _ h1_ => absurd ((up_self b 10).symm.trans h1_) (by decide), fun _ => GW279.out, fun _ => GE279.out, fun _ => NB269_279.out, fun _ => NB279_269.out, fun _ _ => (by (with_reducible repeat (first | refine blk_drewN ?_ _ | refine blk_drew ?_ | refine blk_alloc ?_ _)); refine blk_far ?_ NB280_279.out _; (with_reducible repeat (first | refine blk_drewN ?_ _ | refine blk_drew ?_ | refine blk_alloc ?_ _)); refine blk_far ?_ NB280_279.out _; (with_reducible repeat (first | refine blk_drewN ?_ _ | refine blk_drew ?_ | refine blk_alloc ?_ _)); exact BK280.out), fun _ => GW280.out, fun _ => GE280.out, fun _ => NB269_280.out, fun _ => NB280_269.out, fun _ => (by (with_reducible repeat (first | refine blk_drewN ?_ _ | refine blk_drew ?_ | refine blk_alloc ?_ _)); refine blk_far ?_ NB278_279.out _; (with_reducible repeat (first | refine blk_drewN ?_ _ | refine blk_drew ?_ | refine blk_alloc ?_ _)); refine blk_far ?_ NB278_279.out _; (with_reducible repeat (first | refine blk_drewN ?_ _ | refine blk_drew ?_ | refine blk_alloc ?_ _)); exact BK278.out), fun _ => (by (with_reducible repeat (first | refine blk_drewN ?_ _ | refine blk_drew ?_ | refine blk_alloc ?_ _)); refine blk_put (cs := #[.int .i64 t274, .int .i64 0]) ?_ 1 _ rfl; (with_reducible repeat (first | refine blk_drewN ?_ _ | refine blk_drew ?_ | refine blk_alloc ?_ _)); refine blk_put (cs := #[.int .i64 0, .int .i64 0]) ?_ 0 _ rfl; (with_reducible repeat (first | refine blk_drewN ?_ _ | refine blk_drew ?_ | refine blk_alloc ?_ _)); exact BK279.out), fun h0_ => absurd ((hoff 11 (by kernel_rfl)).symm.trans h0_) (by decide), Q26, Q27, Q28⟩
                          refine steps_cons ?_ ?_
                          · rintro b a w' ⟨gb278, gb279, gb280, m6_, m7_, m8_, ha, Q0, Q13, Q21, Q18, Q24, Q19, Q25, Q22, Q1, Q10, Q7, Q14, Q17, Q3, Q11, Q8, Q15, Q20, Q5, Q12, Q9, Q16, Q23, Q2, Q4, Q6, Q26, Q27, Q28⟩ hb_ hon hoff
                            refine ⟨_, rfl, fun K hK => ?_⟩
                            have e5 : a.tmps[5]? = some (m8_) := by rw [ha]; exact putSel_on (e := (8, 5, m8_)) 8 rfl rfl (hon 8 (by kernel_rfl)) rfl
                            rw [Q28 (hon 8 (by kernel_rfl))] at e5
                            have e21 : a.tmps[21]? = some (.agg #[.int .i64 t276, .int .i64 t277]) := by rw [ha]; exact putSel_on (e := (5, 21, .agg #[.int .i64 t276, .int .i64 t277])) 5 rfl rfl (hon 5 (by kernel_rfl)) rfl
                            replace ha := Aside0.mk ha
                            have BK269 := Aside0.mk Q0
                            have HB := Aside0.mk Q13
                            have NB279_278 := Aside0.mk (Q21 (hon 6 (by kernel_rfl)) (hon 7 (by kernel_rfl)))
                            have NB278_279 := Aside0.mk (Q18 (hon 6 (by kernel_rfl)) (hon 7 (by kernel_rfl)))
                            have NB280_278 := Aside0.mk (Q24 (hon 6 (by kernel_rfl)) (hon 8 (by kernel_rfl)))
                            have NB278_280 := Aside0.mk (Q19 (hon 6 (by kernel_rfl)) (hon 8 (by kernel_rfl)))
                            have NB280_279 := Aside0.mk (Q25 (hon 7 (by kernel_rfl)) (hon 8 (by kernel_rfl)))
                            have NB279_280 := Aside0.mk (Q22 (hon 7 (by kernel_rfl)) (hon 8 (by kernel_rfl)))
                            have GW278 := Aside0.mk (Q10 (hon 6 (by kernel_rfl)))
                            have GE278 := Aside0.mk (Q7 (hon 6 (by kernel_rfl)))
                            have NB269_278 := Aside0.mk (Q14 (hon 6 (by kernel_rfl)))
                            have NB278_269 := Aside0.mk (Q17 (hon 6 (by kernel_rfl)))
                            have GW279 := Aside0.mk (Q11 (hon 7 (by kernel_rfl)))
                            have GE279 := Aside0.mk (Q8 (hon 7 (by kernel_rfl)))
                            have NB269_279 := Aside0.mk (Q15 (hon 7 (by kernel_rfl)))
                            have NB279_269 := Aside0.mk (Q20 (hon 7 (by kernel_rfl)))
                            have BK280 := Aside0.mk (Q5 (hon 8 (by kernel_rfl)) hb_)
                            have GW280 := Aside0.mk (Q12 (hon 8 (by kernel_rfl)))
                            have GE280 := Aside0.mk (Q9 (hon 8 (by kernel_rfl)))
                            have NB269_280 := Aside0.mk (Q16 (hon 8 (by kernel_rfl)))
                            have NB280_269 := Aside0.mk (Q23 (hon 8 (by kernel_rfl)))
                            have BK278 := Aside0.mk (Q2 (hon 9 (by kernel_rfl)))
                            have BK279 := Aside0.mk (Q4 (hon 10 (by kernel_rfl)))
                            have hs69 : w'.cell? ⟨gb280, 0, none⟩ = some (.int .i64 0) := (blk_cell BK280.out 0).trans rfl
                            have hfs69 := blk_frozen BK280.out 0
                            have hns69_0 := NB269_280.out
                            have hns69_1 := NB278_280.out
                            have hns69_2 := NB279_280.out
                            have hms69_0 := NB280_269.out
                            have hms69_1 := NB280_278.out
                            have hms69_2 := NB280_279.out
                            have hs70 : w'.cell? ⟨gb280, 1, none⟩ = some (.int .i64 0) := (blk_cell BK280.out 1).trans rfl
                            have hfs70 := blk_frozen BK280.out 1
                            have hns70_0 := NB269_280.out
                            have hns70_1 := NB278_280.out
                            have hns70_2 := NB279_280.out
                            have hms70_0 := NB280_269.out
                            have hms70_1 := NB280_278.out
                            have hms70_2 := NB280_279.out
                            refine skip_ (w1 := ?_) (by rfl) rfl ?_ ?_
                            rotate_left
                            · go_simp
                              rfl
                            refine hK.out _ _ ⟨gb278, gb279, gb280, m6_, m7_, m8_, (by rw [ha.out]; exact putSel_none (v := undef) rfl), (by (with_reducible repeat (first | refine blk_drewN ?_ _ | refine blk_drew ?_ | refine blk_alloc ?_ _)); refine blk_far ?_ NB269_280.out _; (with_reducible repeat (first | refine blk_drewN ?_ _ | refine blk_drew ?_ | refine blk_alloc ?_ _)); refine blk_far ?_ NB269_280.out _; (with_reducible repeat (first | refine blk_drewN ?_ _ | refine blk_drew ?_ | refine blk_alloc ?_ _)); exact BK269.out), (by repeat (first | (with_reducible first | exact HB.out | apply below_alloc | apply pw_below_drewN | apply below_drew1 | refine below_set ?_ GE269.out | refine below_set ?_ GE278.out | refine below_set ?_ GE279.out | refine below_set ?_ GE280.out) | exact HB.out)), fun _ _ => NB279_278.out, fun _ _ => NB278_279.out, fun _ _ => NB280_278.out, fun _ _ => NB278_280.out, fun _ _ => NB280_279.out, fun _ _ => NB279_280.out, fun _ h1_ => absurd ((hon 9 (by kernel_rfl)).symm.trans h1_) (by decide), fun _ => GW278.out, fun _ => GE278.out, fun _ => NB269_278.out, fun _ => NB278_269.out, fun _ h1_ => absurd ((hon 10 (by kernel_rfl)).symm.trans h1_) (by decide), fun _ => GW279.out, fun _ => GE279.out, fun _ => NB269_279.out, fun _ => NB279_269.out, fun _ h1_ => absurd ((up_self b 11).symm.trans h1_) (by decide), fun _ => GW280.out, fun _ => GE280.out, fun _ => NB269_280.out, fun _ => NB280_269.out, fun _ => (by (with_reducible repeat (first | refine blk_drewN ?_ _ | refine blk_drew ?_ | refine blk_alloc ?_ _)); refine blk_far ?_ NB278_280.out _; (with_reducible repeat (first | refine blk_drewN ?_ _ | refine blk_drew ?_ | refine blk_alloc ?_ _)); refine blk_far ?_ NB278_280.out _; (with_reducible repeat (first | refine blk_drewN ?_ _ | refine blk_drew ?_ | refine blk_alloc ?_ _)); exact BK278.out), fun _ => (by (with_reducible repeat (first | refine blk_drewN ?_ _ | refine blk_drew ?_ | refine blk_alloc ?_ _)); refine blk_far ?_ NB279_280.out _; (with_reducible repeat (first | refine blk_drewN ?_ _ | refine blk_drew ?_ | refine blk_alloc ?_ _)); refine blk_far ?_ NB279_280.out _; (with_reducible repeat (first | refine blk_drewN ?_ _ | refine blk_drew ?_ | refine blk_alloc ?_ _)); exact BK279.out), fun _ => (by (with_reducible repeat (first | refine blk_drewN ?_ _ | refine blk_drew ?_ | refine blk_alloc ?_ _)); refine blk_put (cs := #[.int .i64 t276, .int .i64 0]) ?_ 1 _ rfl; (with_reducible repeat (first | refine blk_drewN ?_ _ | refine blk_drew ?_ | refine blk_alloc ?_ _)); refine blk_put (cs := #[.int .i64 0, .int .i64 0]) ?_ 0 _ rfl; (with_reducible repeat (first | refine blk_drewN ?_ _ | refine blk_drew ?_ | refine blk_alloc ?_ _)); exact BK280.out), Q26, Q27, Q28⟩
                          exact steps_nil
                        rintro b a w70 hall ⟨gb278, gb279, gb280, m6_, m7_, m8_, ha, Q0, Q13, Q21, Q18, Q24, Q19, Q25, Q22, Q1, Q10, Q7, Q14, Q17, Q3, Q11, Q8, Q15, Q20, Q5, Q12, Q9, Q16, Q23, Q2, Q4, Q6, Q26, Q27, Q28⟩
                        clear BK269 HB
                        have hb0_ := hall 0 (by kernel_rfl)
                        have hb1_ := hall 1 (by kernel_rfl)
                        have hb2_ := hall 2 (by kernel_rfl)
                        have hb3_ := hall 3 (by kernel_rfl)
                        have hb4_ := hall 4 (by kernel_rfl)
                        have hb5_ := hall 5 (by kernel_rfl)
                        have hb6_ := hall 6 (by kernel_rfl)
                        have hb7_ := hall 7 (by kernel_rfl)
                        have hb8_ := hall 8 (by kernel_rfl)
                        have hb9_ := hall 9 (by kernel_rfl)
                        have hb10_ := hall 10 (by kernel_rfl)
                        have hb11_ := hall 11 (by kernel_rfl)
                        subst ha
                        obtain rfl := Q26 hb6_
                        obtain rfl := Q27 hb7_
                        obtain rfl := Q28 hb8_
                        simp only [putSel, hb0_, hb1_, hb2_, hb3_, hb4_, hb5_, hb6_, hb7_, hb8_, hb9_, hb10_, hb11_, if_true, Act.put, List.setIfInBounds_toArray, List.set_cons_zero, List.set_cons_succ]
                        have BK269 := Aside0.mk Q0
                        clear Q0
                        have HB := Aside0.mk Q13
                        clear Q13
                        have NB279_278 := Aside0.mk (Q21 hb6_ hb7_)
                        clear Q21
                        have NB278_279 := Aside0.mk (Q18 hb6_ hb7_)
                        clear Q18
                        have NB280_278 := Aside0.mk (Q24 hb6_ hb8_)
                        clear Q24
                        have NB278_280 := Aside0.mk (Q19 hb6_ hb8_)
                        clear Q19
                        have NB280_279 := Aside0.mk (Q25 hb7_ hb8_)
                        clear Q25
                        have NB279_280 := Aside0.mk (Q22 hb7_ hb8_)
                        clear Q22
                        clear Q1
                        have GW278 := Aside0.mk (Q10 hb6_)
                        clear Q10
                        have GE278 := Aside0.mk (Q7 hb6_)
                        clear Q7
                        have NB269_278 := Aside0.mk (Q14 hb6_)
                        clear Q14
                        have NB278_269 := Aside0.mk (Q17 hb6_)
                        clear Q17
                        clear Q3
                        have GW279 := Aside0.mk (Q11 hb7_)
                        clear Q11
                        have GE279 := Aside0.mk (Q8 hb7_)
                        clear Q8
                        have NB269_279 := Aside0.mk (Q15 hb7_)
                        clear Q15
                        have NB279_269 := Aside0.mk (Q20 hb7_)
                        clear Q20
                        clear Q5
                        have GW280 := Aside0.mk (Q12 hb8_)
                        clear Q12
                        have GE280 := Aside0.mk (Q9 hb8_)
                        clear Q9
                        have NB269_280 := Aside0.mk (Q16 hb8_)
                        clear Q16
                        have NB280_269 := Aside0.mk (Q23 hb8_)
                        clear Q23
                        have BK278 := Aside0.mk (Q2 hb9_)
                        clear Q2
                        have BK279 := Aside0.mk (Q4 hb10_)
                        clear Q4
                        have BK280 := Aside0.mk (Q6 hb11_)
                        clear Q6
                        clear hall hb0_ hb1_ hb2_ hb3_ hb4_ hb5_ hb6_ hb7_ hb8_ hb9_ hb10_ hb11_
                        have hnb71 := NB279_269.out
                        have hnc71 := NB269_279.out
                        have hnb72 := NB279_278.out
                        have hnc72 := NB278_279.out
                        have hnb73 := NB279_280.out
                        have hnc73 := NB280_279.out
                        have hcz74_0 : w70.cell? ⟨gb279, 0, none⟩ = some (.int .i64 t274) := (blk_cell BK279.out 0).trans rfl
                        have hcz74_1 : w70.cell? ⟨gb279, 1, none⟩ = some (.int .i64 t275) := (blk_cell BK279.out 1).trans rfl
                        have hfz74_0 := blk_frozen BK279.out 0
                        have hfz74_1 := blk_frozen BK279.out 1
                        have hnb75 := NB278_269.out
                        have hnc75 := NB269_278.out
                        have hnb76 := NB278_280.out
                        have hnc76 := NB280_278.out
                        have hcz77_0 : w70.cell? ⟨gb278, 0, none⟩ = some (.int .i64 t272) := (blk_cell BK278.out 0).trans rfl
                        have hcz77_1 : w70.cell? ⟨gb278, 1, none⟩ = some (.int .i64 t273) := (blk_cell BK278.out 1).trans rfl
                        have hfz77_0 := blk_frozen BK278.out 0
                        have hfz77_1 := blk_frozen BK278.out 1
                        try go_wp2_with (first | ((with_reducible refine gate_callee (f := 7) rfl ?_); refine goesL_ (some 27) rfl rfl Tryd.func7 (by kernel_rfl) rfl #[] rfl (by (try simp only [List.map_toArray, List.map_cons, List.map_nil]); first | done | rfl | (simp only [List.length_drop, List.length_take]; rfl)) ?_; (with_reducible refine (stencillaw02_live.calls kj1  true _ ?side1 A17.out).mono ?_); (case side1 => first | exact HLD | exact Laid.below HLD (by repeat (first | (with_reducible first | exact HB.out | apply below_alloc | apply pw_below_drewN | apply below_drew1 | refine below_set ?_ GE269.out | refine below_set ?_ GE278.out | refine below_set ?_ GE279.out | refine below_set ?_ GE280.out) | exact HB.out))); rintro e w78 ⟨rfl, hb⟩; refine ⟨_, rfl, ?_⟩; have n0_ := Aside0.mk (blk_below (g := gb269) (o := .cells #[.int .i64 a0_0, .int .i64 a0_1] 24 (0, 0)) (by (with_reducible repeat (first | refine blk_drewN ?_ _ | refine blk_drew ?_ | refine blk_alloc ?_ _)); exact BK269.out) hb); have n1_ := Aside0.mk (blk_below (g := gb278) (o := .cells #[.int .i64 t272, .int .i64 t273] 24 (0, 0)) (by (with_reducible repeat (first | refine blk_drewN ?_ _ | refine blk_drew ?_ | refine blk_alloc ?_ _)); exact BK278.out) hb); have n2_ := Aside0.mk (blk_below (g := gb279) (o := .cells #[.int .i64 t274, .int .i64 t275] 24 (0, 0)) (by (with_reducible repeat (first | refine blk_drewN ?_ _ | refine blk_drew ?_ | refine blk_alloc ?_ _)); exact BK279.out) hb); have n3_ := Aside0.mk (blk_below (g := gb280) (o := .cells #[.int .i64 t276, .int .i64 t277] 24 (0, 0)) (by (with_reducible repeat (first | refine blk_drewN ?_ _ | refine blk_drew ?_ | refine blk_alloc ?_ _)); exact BK280.out) hb); have n4_ := Aside0.mk (below_step (by repeat (first | (with_reducible first | exact HB.out | apply below_alloc | apply pw_below_drewN | apply below_drew1 | refine below_set ?_ GE269.out | refine below_set ?_ GE278.out | refine below_set ?_ GE279.out | refine below_set ?_ GE280.out) | exact HB.out)) hb); clear BK269; clear BK278; clear BK279; clear BK280; clear HB; have BK269 := n0_; have BK278 := n1_; have BK279 := n2_; have BK280 := n3_; have HB := n4_; clear n0_ n1_ n2_ n3_ n4_; (try clear hb); (try clear hb2); (try clear hk); (try clear hi); have hcz79_0 : w78.cell? ⟨gb278, 0, none⟩ = some (.int .i64 t272) := (blk_cell BK278.out 0).trans rfl; have hcz79_1 : w78.cell? ⟨gb278, 1, none⟩ = some (.int .i64 t273) := (blk_cell BK278.out 1).trans rfl; have hfz79_0 := blk_frozen BK278.out 0; have hfz79_1 := blk_frozen BK278.out 1; have hnb80 := NB269_280.out; have hnc80 := NB280_269.out; have hcz81_0 : w78.cell? ⟨gb269, 0, none⟩ = some (.int .i64 a0_0) := (blk_cell BK269.out 0).trans rfl; have hcz81_1 : w78.cell? ⟨gb269, 1, none⟩ = some (.int .i64 a0_1) := (blk_cell BK269.out 1).trans rfl; have hfz81_0 := blk_frozen BK269.out 0; have hfz81_1 := blk_frozen BK269.out 1; have hcz82_0 : w78.cell? ⟨gb279, 0, none⟩ = some (.int .i64 t274) := (blk_cell BK279.out 0).trans rfl; have hcz82_1 : w78.cell? ⟨gb279, 1, none⟩ = some (.int .i64 t275) := (blk_cell BK279.out 1).trans rfl; have hfz82_0 := blk_frozen BK279.out 0; have hfz82_1 := blk_frozen BK279.out 1; have hcz83_0 : w78.cell? ⟨gb280, 0, none⟩ = some (.int .i64 t276) := (blk_cell BK280.out 0).trans rfl; have hcz83_1 : w78.cell? ⟨gb280, 1, none⟩ = some (.int .i64 t277) := (blk_cell BK280.out 1).trans rfl; have hfz83_0 := blk_frozen BK280.out 0; have hfz83_1 := blk_frozen BK280.out 1) | (go_at_call 7; (with_reducible refine (stencillaw02_live.calls kj1  true _ ?side1 A17.out).mono ?_); (case side1 => first | exact HLD | exact Laid.below HLD (by repeat (first | (with_reducible first | exact HB.out | apply below_alloc | apply pw_below_drewN | apply below_drew1 | refine below_set ?_ GE269.out | refine below_set ?_ GE278.out | refine below_set ?_ GE279.out | refine below_set ?_ GE280.out) | exact HB.out))); rintro e w78 ⟨rfl, hb⟩; have n0_ := Aside0.mk (blk_below (g := gb269) (o := .cells #[.int .i64 a0_0, .int .i64 a0_1] 24 (0, 0)) (by (with_reducible repeat (first | refine blk_drewN ?_ _ | refine blk_drew ?_ | refine blk_alloc ?_ _)); exact BK269.out) hb); have n1_ := Aside0.mk (blk_below (g := gb278) (o := .cells #[.int .i64 t272, .int .i64 t273] 24 (0, 0)) (by (with_reducible repeat (first | refine blk_drewN ?_ _ | refine blk_drew ?_ | refine blk_alloc ?_ _)); exact BK278.out) hb); have n2_ := Aside0.mk (blk_below (g := gb279) (o := .cells #[.int .i64 t274, .int .i64 t275] 24 (0, 0)) (by (with_reducible repeat (first | refine blk_drewN ?_ _ | refine blk_drew ?_ | refine blk_alloc ?_ _)); exact BK279.out) hb); have n3_ := Aside0.mk (blk_below (g := gb280) (o := .cells #[.int .i64 t276, .int .i64 t277] 24 (0, 0)) (by (with_reducible repeat (first | refine blk_drewN ?_ _ | refine blk_drew ?_ | refine blk_alloc ?_ _)); exact BK280.out) hb); have n4_ := Aside0.mk (below_step (by repeat (first | (with_reducible first | exact HB.out | apply below_alloc | apply pw_below_drewN | apply below_drew1 | refine below_set ?_ GE269.out | refine below_set ?_ GE278.out | refine below_set ?_ GE279.out | refine below_set ?_ GE280.out) | exact HB.out)) hb); clear BK269; clear BK278; clear BK279; clear BK280; clear HB; have BK269 := n0_; have BK278 := n1_; have BK279 := n2_; have BK280 := n3_; have HB := n4_; clear n0_ n1_ n2_ n3_ n4_; (try clear hb); (try clear hb2); (try clear hk); (try clear hi); have hcz79_0 : w78.cell? ⟨gb278, 0, none⟩ = some (.int .i64 t272) := (blk_cell BK278.out 0).trans rfl; have hcz79_1 : w78.cell? ⟨gb278, 1, none⟩ = some (.int .i64 t273) := (blk_cell BK278.out 1).trans rfl; have hfz79_0 := blk_frozen BK278.out 0; have hfz79_1 := blk_frozen BK278.out 1; have hnb80 := NB269_280.out; have hnc80 := NB280_269.out; have hcz81_0 : w78.cell? ⟨gb269, 0, none⟩ = some (.int .i64 a0_0) := (blk_cell BK269.out 0).trans rfl; have hcz81_1 : w78.cell? ⟨gb269, 1, none⟩ = some (.int .i64 a0_1) := (blk_cell BK269.out 1).trans rfl; have hfz81_0 := blk_frozen BK269.out 0; have hfz81_1 := blk_frozen BK269.out 1; have hcz82_0 : w78.cell? ⟨gb279, 0, none⟩ = some (.int .i64 t274) := (blk_cell BK279.out 0).trans rfl; have hcz82_1 : w78.cell? ⟨gb279, 1, none⟩ = some (.int .i64 t275) := (blk_cell BK279.out 1).trans rfl; have hfz82_0 := blk_frozen BK279.out 0; have hfz82_1 := blk_frozen BK279.out 1; have hcz83_0 : w78.cell? ⟨gb280, 0, none⟩ = some (.int .i64 t276) := (blk_cell BK280.out 0).trans rfl; have hcz83_1 : w78.cell? ⟨gb280, 1, none⟩ = some (.int .i64 t277) := (blk_cell BK280.out 1).trans rfl; have hfz83_0 := blk_frozen BK280.out 0; have hfz83_1 := blk_frozen BK280.out 1))
                        all_goals (go_ret; exact ⟨by first | rfl | (simp [errW_none, errW_some] <;> rfl) | (simp [*, errW_none, errW_some] <;> rfl), by repeat (first | (with_reducible first | exact HB.out | apply below_alloc | apply pw_below_drewN | apply below_drew1 | refine below_set ?_ GE269.out | refine below_set ?_ GE278.out | refine below_set ?_ GE279.out | refine below_set ?_ GE280.out) | exact HB.out)⟩)
                      · rw [if_neg c56] at H
                        exact absurd H (by simp)
                    · rw [if_neg c55] at H
                      have c55b0 : (t276 == t272 && (t277 == t273)) = false := by simpa using c55
                      (try (have c55b1 : decide (t276 = t272 && (t277 == t273)) = false := by simpa using c55))
                      (try (have c55b2 : (t276 == t272 && (t277 == t273)) = false := by simpa using c55))
                      (try (have c55b3 : ¬ (t276 = t272 && (t277 == t273)) := by simpa using c55))
                      clear c55
                      by_cases c84 : (t276 == t274 && (t277 == t275)) = true
                      · rw [if_pos c84] at H
                        have c84b0 : (t276 == t274 && (t277 == t275)) = true := c84
                        (try (have c84b1 : decide (t276 = t274 && (t277 == t275)) = true := by simpa using c84))
                        (try (have c84b2 : (t276 == t274 && (t277 == t275)) = true := by simpa using c84))
                        clear c84
                        obtain rfl := Option.some.inj H
                        try go_wp2
                        have n0_ := Aside0.mk (blk_drew BK269.out)
                        have n1_ := Aside0.mk (below_drew1 HB.out)
                        clear BK269
                        clear HB
                        have BK269 := n0_
                        have HB := n1_
                        clear n0_ n1_
                        refine start_ (n := 12) (S := fun w' => True) (ds := []) #[false, false, false, false, false, false, false, false, false, false, false, false] (by kernel_rfl) rfl rfl trivial (fun hHeld => ?_); refine with_tabW stencillaw02_XnumNear.tab3 stencillaw02_XnumNear.bits3 (fun HT_ HW_ => ?_)
                        generalize wc.drew = w85 at BK269 HB hHeld ⊢
                        refine inv_at [0, 1, 2, 3, 4, 5, 6, 7, 8, 9, 10, 11] (fun a0_ b a w' => ∃ (gb278 : Nat) (gb279 : Nat) (gb280 : Nat) (m6_ : Value) (m7_ : Value) (m8_ : Value), a = putSel a0_ b [(0, 16, .agg #[.int .i64 a0_0, .int .i64 a0_1]), (1, 17, .agg #[.int .i64 t272, .int .i64 t273]), (2, 18, .agg #[.int .i64 a0_0, .int .i64 a0_1]), (3, 19, .agg #[.int .i64 t274, .int .i64 t275]), (4, 20, .agg #[.int .i64 a0_0, .int .i64 a0_1]), (5, 21, .agg #[.int .i64 t276, .int .i64 t277]), (6, 3, m6_), (7, 4, m7_), (8, 5, m8_)] ∧ (w'.heap[gb269]? = some (.cells #[.int .i64 a0_0, .int .i64 a0_1] 24 (0, 0))) ∧ (Below w.heap.size w w') ∧ (b 6 = true → b 7 = true → gb279 ≠ gb278) ∧ (b 6 = true → b 7 = true → gb278 ≠ gb279) ∧ (b 6 = true → b 8 = true → gb280 ≠ gb278) ∧ (b 6 = true → b 8 = true → gb278 ≠ gb280) ∧ (b 7 = true → b 8 = true → gb280 ≠ gb279) ∧ (b 7 = true → b 8 = true → gb279 ≠ gb280) ∧ (b 6 = true → b 9 = false → w'.heap[gb278]? = some (.cells #[.int .i64 0, .int .i64 0] 24 (0, 0))) ∧ (b 6 = true → w.heap.size ≤ gb278) ∧ (b 6 = true → w.heap.size ≤ gb278) ∧ (b 6 = true → gb269 ≠ gb278) ∧ (b 6 = true → gb278 ≠ gb269) ∧ (b 7 = true → b 10 = false → w'.heap[gb279]? = some (.cells #[.int .i64 0, .int .i64 0] 24 (0, 0))) ∧ (b 7 = true → w.heap.size ≤ gb279) ∧ (b 7 = true → w.heap.size ≤ gb279) ∧ (b 7 = true → gb269 ≠ gb279) ∧ (b 7 = true → gb279 ≠ gb269) ∧ (b 8 = true → b 11 = false → w'.heap[gb280]? = some (.cells #[.int .i64 0, .int .i64 0] 24 (0, 0))) ∧ (b 8 = true → w.heap.size ≤ gb280) ∧ (b 8 = true → w.heap.size ≤ gb280) ∧ (b 8 = true → gb269 ≠ gb280) ∧ (b 8 = true → gb280 ≠ gb269) ∧ (b 9 = true → w'.heap[gb278]? = some (.cells #[.int .i64 t272, .int .i64 t273] 24 (0, 0))) ∧ (b 10 = true → w'.heap[gb279]? = some (.cells #[.int .i64 t274, .int .i64 t275] 24 (0, 0))) ∧ (b 11 = true → w'.heap[gb280]? = some (.cells #[.int .i64 t276, .int .i64 t277] 24 (0, 0))) ∧ (b 6 = true → (m6_ : Value) = .pointer (some ⟨gb278, 0, none⟩)) ∧ (b 7 = true → (m7_ : Value) = .pointer (some ⟨gb279, 0, none⟩)) ∧ (b 8 = true → (m8_ : Value) = .pointer (some ⟨gb280, 0, none⟩))) HT_.out HW_.out (by kernel_rfl) (by kernel_rfl) ?_ ?_ ?_
                        · exact ⟨0, 0, 0, .bool false, .bool false, .bool false, by simp only [putSel, Bool.false_eq_true, if_false], BK269.out, HB.out, fun h_ => absurd h_ (by decide), fun h_ => absurd h_ (by decide), fun h_ => absurd h_ (by decide), fun h_ => absurd h_ (by decide), fun h_ => absurd h_ (by decide), fun h_ => absurd h_ (by decide), fun h_ => absurd h_ (by decide), fun h_ => absurd h_ (by decide), fun h_ => absurd h_ (by decide), fun h_ => absurd h_ (by decide), fun h_ => absurd h_ (by decide), fun h_ => absurd h_ (by decide), fun h_ => absurd h_ (by decide), fun h_ => absurd h_ (by decide), fun h_ => absurd h_ (by decide), fun h_ => absurd h_ (by decide), fun h_ => absurd h_ (by decide), fun h_ => absurd h_ (by decide), fun h_ => absurd h_ (by decide), fun h_ => absurd h_ (by decide), fun h_ => absurd h_ (by decide), fun h_ => absurd h_ (by decide), fun h_ => absurd h_ (by decide), fun h_ => absurd h_ (by decide), fun h_ => absurd h_ (by decide), fun h_ => absurd h_ (by decide), fun h_ => absurd h_ (by decide)⟩
                        · skip
                          clear BK269 HB
                          refine steps_cons ?_ ?_
                          · rintro b a w' ⟨gb278, gb279, gb280, m6_, m7_, m8_, ha, Q0, Q13, Q21, Q18, Q24, Q19, Q25, Q22, Q1, Q10, Q7, Q14, Q17, Q3, Q11, Q8, Q15, Q20, Q5, Q12, Q9, Q16, Q23, Q2, Q4, Q6, Q26, Q27, Q28⟩ hb_ hon hoff
                            refine ⟨_, rfl, fun K hK => ?_⟩
                            have e1 : a.tmps[1]? = some (.pointer (some ⟨gb269, 0, none⟩)) := by rw [ha]; exact (putSel_off rfl).trans rfl
                            replace ha := Aside0.mk ha
                            have BK269 := Aside0.mk Q0
                            have HB := Aside0.mk Q13
                            have hc0_ : w'.cell? ⟨gb269, 0, none⟩ = some (.int .i64 a0_0) := (blk_cell BK269.out 0).trans rfl
                            have hc1_ : w'.cell? ⟨gb269, 1, none⟩ = some (.int .i64 a0_1) := (blk_cell BK269.out 1).trans rfl
                            refine value_ (w1 := w') (v := .agg #[.int .i64 a0_0, .int .i64 a0_1]) (by rfl) rfl ?_ ?_
                            · go_simp
                              (try simp only [i64_w])
                              try rfl
                            refine hK.out _ _ ⟨gb278, gb279, gb280, m6_, m7_, m8_, (by rw [ha.out]; exact putSel_upk 0 hb_ rfl rfl rfl), Q0, Q13, Q21, Q18, Q24, Q19, Q25, Q22, Q1, Q10, Q7, Q14, Q17, Q3, Q11, Q8, Q15, Q20, Q5, Q12, Q9, Q16, Q23, fun h0_ => absurd ((hoff 9 (by kernel_rfl)).symm.trans h0_) (by decide), fun h0_ => absurd ((hoff 10 (by kernel_rfl)).symm.trans h0_) (by decide), fun h0_ => absurd ((hoff 11 (by kernel_rfl)).symm.trans h0_) (by decide), Q26, Q27, Q28⟩
                          refine steps_cons ?_ ?_
                          · rintro b a w' ⟨gb278, gb279, gb280, m6_, m7_, m8_, ha, Q0, Q13, Q21, Q18, Q24, Q19, Q25, Q22, Q1, Q10, Q7, Q14, Q17, Q3, Q11, Q8, Q15, Q20, Q5, Q12, Q9, Q16, Q23, Q2, Q4, Q6, Q26, Q27, Q28⟩ hb_ hon hoff
                            refine ⟨_, rfl, fun K hK => ?_⟩
                            have e16 : a.tmps[16]? = some (.agg #[.int .i64 a0_0, .int .i64 a0_1]) := by rw [ha]; exact putSel_on (e := (0, 16, .agg #[.int .i64 a0_0, .int .i64 a0_1])) 0 rfl rfl (hon 0 (by kernel_rfl)) rfl
                            replace ha := Aside0.mk ha
                            have BK269 := Aside0.mk Q0
                            have HB := Aside0.mk Q13
                            refine goes_ Tryd.func8 (by kernel_rfl) rfl #[.agg #[.int .i64 a0_0, .int .i64 a0_1]] (by rfl) rfl rfl (by first | (simp only [List.map_toArray, List.map_cons, List.map_nil, Act.eval, Array.getD_eq_getD_getElem?, Option.getD_some, e16]; done) | (simp only [List.map_toArray, List.map_cons, List.map_nil, Act.eval, Array.getD_eq_getD_getElem?, Option.getD_some, e16]; rfl)) ?_
                            with_reducible refine (xnum_Floor.calls a0_0 a0_1 t272 t273 _ ?side1 A14.out).mono ?_
                            (case side1 => first | exact HLD | exact Laid.below HLD (by repeat (first | (with_reducible first | exact HB.out | apply below_alloc | apply pw_below_drewN | apply below_drew1 | refine below_set ?_ GE269.out) | exact HB.out)))
                            rintro e w86 ⟨rfl, hb⟩
                            refine ⟨_, rfl, ?_⟩
                            have n0_ := Aside0.mk (blk_below (g := gb269) (o := .cells #[.int .i64 a0_0, .int .i64 a0_1] 24 (0, 0)) (by (with_reducible repeat (first | refine blk_drewN ?_ _ | refine blk_drew ?_ | refine blk_alloc ?_ _)); exact BK269.out) hb)
                            have n1_ := Aside0.mk (below_step (by repeat (first | (with_reducible first | exact HB.out | apply below_alloc | apply pw_below_drewN | apply below_drew1 | refine below_set ?_ GE269.out) | exact HB.out)) hb)
                            have z_BK278 := fun (h0_ : b 6 = true) (h1_ : b 9 = false) => (show w86.heap[gb278]? = some (.cells #[.int .i64 0, .int .i64 0] 24 (0, 0)) from by first | exact (blk_below (g := gb278) (o := .cells #[.int .i64 0, .int .i64 0] 24 (0, 0)) (by (with_reducible repeat (first | refine blk_drewN ?_ _ | refine blk_drew ?_ | refine blk_alloc ?_ _)); exact (Q1 h0_ h1_)) hb))
                            have z_BK279 := fun (h0_ : b 7 = true) (h1_ : b 10 = false) => (show w86.heap[gb279]? = some (.cells #[.int .i64 0, .int .i64 0] 24 (0, 0)) from by first | exact (blk_below (g := gb279) (o := .cells #[.int .i64 0, .int .i64 0] 24 (0, 0)) (by (with_reducible repeat (first | refine blk_drewN ?_ _ | refine blk_drew ?_ | refine blk_alloc ?_ _)); exact (Q3 h0_ h1_)) hb))
                            have z_BK280 := fun (h0_ : b 8 = true) (h1_ : b 11 = false) => (show w86.heap[gb280]? = some (.cells #[.int .i64 0, .int .i64 0] 24 (0, 0)) from by first | exact (blk_below (g := gb280) (o := .cells #[.int .i64 0, .int .i64 0] 24 (0, 0)) (by (with_reducible repeat (first | refine blk_drewN ?_ _ | refine blk_drew ?_ | refine blk_alloc ?_ _)); exact (Q5 h0_ h1_)) hb))
                            clear BK269
                            clear HB
                            have BK269 := n0_
                            have HB := n1_
                            clear n0_ n1_
                            (try clear hb)
                            (try clear hb2)
                            (try clear hk)
                            (try clear hi)
                            refine hK.out _ _ ⟨gb278, gb279, gb280, m6_, m7_, m8_, (by rw [ha.out]; exact putSel_upk 1 hb_ rfl rfl rfl), (by (with_reducible repeat (first | refine blk_drewN ?_ _ | refine blk_drew ?_ | refine blk_alloc ?_ _)); exact BK269.out), (by repeat (first | (with_reducible first | exact HB.out | apply below_alloc | apply pw_below_drewN | apply below_drew1 | refine below_set ?_ GE269.out) | exact HB.out)), Q21, Q18, Q24, Q19, Q25, Q22, z_BK278, Q10, Q7, Q14, Q17, z_BK279, Q11, Q8, Q15, Q20, z_BK280, Q12, Q9, Q16, Q23, fun h0_ => absurd ((hoff 9 (by kernel_rfl)).symm.trans h0_) (by decide), fun h0_ => absurd ((hoff 10 (by kernel_rfl)).symm.trans h0_) (by decide), fun h0_ => absurd ((hoff 11 (by kernel_rfl)).symm.trans h0_) (by decide), Q26, Q27, Q28⟩
                          refine steps_cons ?_ ?_
                          · rintro b a w' ⟨gb278, gb279, gb280, m6_, m7_, m8_, ha, Q0, Q13, Q21, Q18, Q24, Q19, Q25, Q22, Q1, Q10, Q7, Q14, Q17, Q3, Q11, Q8, Q15, Q20, Q5, Q12, Q9, Q16, Q23, Q2, Q4, Q6, Q26, Q27, Q28⟩ hb_ hon hoff
                            refine ⟨_, rfl, fun K hK => ?_⟩
                            have e1 : a.tmps[1]? = some (.pointer (some ⟨gb269, 0, none⟩)) := by rw [ha]; exact (putSel_off rfl).trans rfl
                            replace ha := Aside0.mk ha
                            have BK269 := Aside0.mk Q0
                            have HB := Aside0.mk Q13
                            have hc0_ : w'.cell? ⟨gb269, 0, none⟩ = some (.int .i64 a0_0) := (blk_cell BK269.out 0).trans rfl
                            have hc1_ : w'.cell? ⟨gb269, 1, none⟩ = some (.int .i64 a0_1) := (blk_cell BK269.out 1).trans rfl
                            refine value_ (w1 := w') (v := .agg #[.int .i64 a0_0, .int .i64 a0_1]) (by rfl) rfl ?_ ?_
                            · go_simp
                              (try simp only [i64_w])
                              try rfl
                            refine hK.out _ _ ⟨gb278, gb279, gb280, m6_, m7_, m8_, (by rw [ha.out]; exact putSel_upk 2 hb_ rfl rfl rfl), Q0, Q13, Q21, Q18, Q24, Q19, Q25, Q22, Q1, Q10, Q7, Q14, Q17, Q3, Q11, Q8, Q15, Q20, Q5, Q12, Q9, Q16, Q23, fun h0_ => absurd ((hoff 9 (by kernel_rfl)).symm.trans h0_) (by decide), fun h0_ => absurd ((hoff 10 (by kernel_rfl)).symm.trans h0_) (by decide), fun h0_ => absurd ((hoff 11 (by kernel_rfl)).symm.trans h0_) (by decide), Q26, Q27, Q28⟩
                          refine steps_cons ?_ ?_
                          · rintro b a w' ⟨gb278, gb279, gb280, m6_, m7_, m8_, ha, Q0, Q13, Q21, Q18, Q24, Q19, Q25, Q22, Q1, Q10, Q7, Q14, Q17, Q3, Q11, Q8, Q15, Q20, Q5, Q12, Q9, Q16, Q23, Q2, Q4, Q6, Q26, Q27, Q28⟩ hb_ hon hoff
                            refine ⟨_, rfl, fun K hK => ?_⟩
                            have e18 : a.tmps[18]? = some (.agg #[.int .i64 a0_0, .int .i64 a0_1]) := by rw [ha]; exact putSel_on (e := (2, 18, .agg #[.int .i64 a0_0, .int .i64 a0_1])) 2 rfl rfl (hon 2 (by kernel_rfl)) rfl
                            replace ha := Aside0.mk ha
                            have BK269 := Aside0.mk Q0
                            have HB := Aside0.mk Q13
                            refine goes_ Tryd.func9 (by kernel_rfl) rfl #[.agg #[.int .i64 a0_0, .int .i64 a0_1]] (by rfl) rfl rfl (by first | (simp only [List.map_toArray, List.map_cons, List.map_nil, Act.eval, Array.getD_eq_getD_getElem?, Option.getD_some, e18]; done) | (simp only [List.map_toArray, List.map_cons, List.map_nil, Act.eval, Array.getD_eq_getD_getElem?, Option.getD_some, e18]; rfl)) ?_
                            with_reducible refine (xnum_Ceiling.calls kj1 a0_0 a0_1 t274 t275 _ ?side1 A15.out).mono ?_
                            (case side1 => first | exact HLD | exact Laid.below HLD (by repeat (first | (with_reducible first | exact HB.out | apply below_alloc | apply pw_below_drewN | apply below_drew1 | refine below_set ?_ GE269.out) | exact HB.out)))
                            rintro e w88 ⟨rfl, hb⟩
                            refine ⟨_, rfl, ?_⟩
                            have n0_ := Aside0.mk (blk_below (g := gb269) (o := .cells #[.int .i64 a0_0, .int .i64 a0_1] 24 (0, 0)) (by (with_reducible repeat (first | refine blk_drewN ?_ _ | refine blk_drew ?_ | refine blk_alloc ?_ _)); exact BK269.out) hb)
                            have n1_ := Aside0.mk (below_step (by repeat (first | (with_reducible first | exact HB.out | apply below_alloc | apply pw_below_drewN | apply below_drew1 | refine below_set ?_ GE269.out) | exact HB.out)) hb)
                            have z_BK278 := fun (h0_ : b 6 = true) (h1_ : b 9 = false) => (show w88.heap[gb278]? = some (.cells #[.int .i64 0, .int .i64 0] 24 (0, 0)) from by first | exact (blk_below (g := gb278) (o := .cells #[.int .i64 0, .int .i64 0] 24 (0, 0)) (by (with_reducible repeat (first | refine blk_drewN ?_ _ | refine blk_drew ?_ | refine blk_alloc ?_ _)); exact (Q1 h0_ h1_)) hb))
                            have z_BK279 := fun (h0_ : b 7 = true) (h1_ : b 10 = false) => (show w88.heap[gb279]? = some (.cells #[.int .i64 0, .int .i64 0] 24 (0, 0)) from by first | exact (blk_below (g := gb279) (o := .cells #[.int .i64 0, .int .i64 0] 24 (0, 0)) (by (with_reducible repeat (first | refine blk_drewN ?_ _ | refine blk_drew ?_ | refine blk_alloc ?_ _)); exact (Q3 h0_ h1_)) hb))
                            have z_BK280 := fun (h0_ : b 8 = true) (h1_ : b 11 = false) => (show w88.heap[gb280]? = some (.cells #[.int .i64 0, .int .i64 0] 24 (0, 0)) from by first | exact (blk_below (g := gb280) (o := .cells #[.int .i64 0, .int .i64 0] 24 (0, 0)) (by (with_reducible repeat (first | refine blk_drewN ?_ _ | refine blk_drew ?_ | refine blk_alloc ?_ _)); exact (Q5 h0_ h1_)) hb))
                            clear BK269
                            clear HB
                            have BK269 := n0_
                            have HB := n1_
                            clear n0_ n1_
                            (try clear hb)
                            (try clear hb2)
                            (try clear hk)
                            (try clear hi)
                            refine hK.out _ _ ⟨gb278, gb279, gb280, m6_, m7_, m8_, (by rw [ha.out]; exact putSel_upk 3 hb_ rfl rfl rfl), (by (with_reducible repeat (first | refine blk_drewN ?_ _ | refine blk_drew ?_ | refine blk_alloc ?_ _)); exact BK269.out), (by repeat (first | (with_reducible first | exact HB.out | apply below_alloc | apply pw_below_drewN | apply below_drew1 | refine below_set ?_ GE269.out) | exact HB.out)), Q21, Q18, Q24, Q19, Q25, Q22, z_BK278, Q10, Q7, Q14, Q17, z_BK279, Q11, Q8, Q15, Q20, z_BK280, Q12, Q9, Q16, Q23, fun h0_ => absurd ((hoff 9 (by kernel_rfl)).symm.trans h0_) (by decide), fun h0_ => absurd ((hoff 10 (by kernel_rfl)).symm.trans h0_) (by decide), fun h0_ => absurd ((hoff 11 (by kernel_rfl)).symm.trans h0_) (by decide), Q26, Q27, Q28⟩
                          refine steps_cons ?_ ?_
                          · rintro b a w' ⟨gb278, gb279, gb280, m6_, m7_, m8_, ha, Q0, Q13, Q21, Q18, Q24, Q19, Q25, Q22, Q1, Q10, Q7, Q14, Q17, Q3, Q11, Q8, Q15, Q20, Q5, Q12, Q9, Q16, Q23, Q2, Q4, Q6, Q26, Q27, Q28⟩ hb_ hon hoff
                            refine ⟨_, rfl, fun K hK => ?_⟩
                            have e1 : a.tmps[1]? = some (.pointer (some ⟨gb269, 0, none⟩)) := by rw [ha]; exact (putSel_off rfl).trans rfl
                            replace ha := Aside0.mk ha
                            have BK269 := Aside0.mk Q0
                            have HB := Aside0.mk Q13
                            have hc0_ : w'.cell? ⟨gb269, 0, none⟩ = some (.int .i64 a0_0) := (blk_cell BK269.out 0).trans rfl
                            have hc1_ : w'.cell? ⟨gb269, 1, none⟩ = some (.int .i64 a0_1) := (blk_cell BK269.out 1).trans rfl
                            refine value_ (w1 := w') (v := .agg #[.int .i64 a0_0, .int .i64 a0_1]) (by rfl) rfl ?_ ?_
                            · go_simp
                              (try simp only [i64_w])
                              try rfl
                            refine hK.out _ _ ⟨gb278, gb279, gb280, m6_, m7_, m8_, (by rw [ha.out]; exact putSel_upk 4 hb_ rfl rfl rfl), Q0, Q13, Q21, Q18, Q24, Q19, Q25, Q22, Q1, Q10, Q7, Q14, Q17, Q3, Q11, Q8, Q15, Q20, Q5, Q12, Q9, Q16, Q23, fun h0_ => absurd ((hoff 9 (by kernel_rfl)).symm.trans h0_) (by decide), fun h0_ => absurd ((hoff 10 (by kernel_rfl)).symm.trans h0_) (by decide), fun h0_ => absurd ((hoff 11 (by kernel_rfl)).symm.trans h0_) (by decide), Q26, Q27, Q28⟩
                          refine steps_cons ?_ ?_
                          · rintro b a w' ⟨gb278, gb279, gb280, m6_, m7_, m8_, ha, Q0, Q13, Q21, Q18, Q24, Q19, Q25, Q22, Q1, Q10, Q7, Q14, Q17, Q3, Q11, Q8, Q15, Q20, Q5, Q12, Q9, Q16, Q23, Q2, Q4, Q6, Q26, Q27, Q28⟩ hb_ hon hoff
                            refine ⟨_, rfl, fun K hK => ?_⟩
                            have e20 : a.tmps[20]? = some (.agg #[.int .i64 a0_0, .int .i64 a0_1]) := by rw [ha]; exact putSel_on (e := (4, 20, .agg #[.int .i64 a0_0, .int .i64 a0_1])) 4 rfl rfl (hon 4 (by kernel_rfl)) rfl
                            replace ha := Aside0.mk ha
                            have BK269 := Aside0.mk Q0
                            have HB := Aside0.mk Q13
                            refine goes_ Tryd.func10 (by kernel_rfl) rfl #[.agg #[.int .i64 a0_0, .int .i64 a0_1]] (by rfl) rfl rfl (by first | (simp only [List.map_toArray, List.map_cons, List.map_nil, Act.eval, Array.getD_eq_getD_getElem?, Option.getD_some, e20]; done) | (simp only [List.map_toArray, List.map_cons, List.map_nil, Act.eval, Array.getD_eq_getD_getElem?, Option.getD_some, e20]; rfl)) ?_
                            with_reducible refine (xnum_Round.calls a0_0 a0_1 t276 t277 _ ?side1 A16.out).mono ?_
                            (case side1 => first | exact HLD | exact Laid.below HLD (by repeat (first | (with_reducible first | exact HB.out | apply below_alloc | apply pw_below_drewN | apply below_drew1 | refine below_set ?_ GE269.out) | exact HB.out)))
                            rintro e w89 ⟨rfl, hb⟩
                            refine ⟨_, rfl, ?_⟩
                            have n0_ := Aside0.mk (blk_below (g := gb269) (o := .cells #[.int .i64 a0_0, .int .i64 a0_1] 24 (0, 0)) (by (with_reducible repeat (first | refine blk_drewN ?_ _ | refine blk_drew ?_ | refine blk_alloc ?_ _)); exact BK269.out) hb)
                            have n1_ := Aside0.mk (below_step (by repeat (first | (with_reducible first | exact HB.out | apply below_alloc | apply pw_below_drewN | apply below_drew1 | refine below_set ?_ GE269.out) | exact HB.out)) hb)
                            have z_BK278 := fun (h0_ : b 6 = true) (h1_ : b 9 = false) => (show w89.heap[gb278]? = some (.cells #[.int .i64 0, .int .i64 0] 24 (0, 0)) from by first | exact (blk_below (g := gb278) (o := .cells #[.int .i64 0, .int .i64 0] 24 (0, 0)) (by (with_reducible repeat (first | refine blk_drewN ?_ _ | refine blk_drew ?_ | refine blk_alloc ?_ _)); exact (Q1 h0_ h1_)) hb))
                            have z_BK279 := fun (h0_ : b 7 = true) (h1_ : b 10 = false) => (show w89.heap[gb279]? = some (.cells #[.int .i64 0, .int .i64 0] 24 (0, 0)) from by first | exact (blk_below (g := gb279) (o := .cells #[.int .i64 0, .int .i64 0] 24 (0, 0)) (by (with_reducible repeat (first | refine blk_drewN ?_ _ | refine blk_drew ?_ | refine blk_alloc ?_ _)); exact (Q3 h0_ h1_)) hb))
                            have z_BK280 := fun (h0_ : b 8 = true) (h1_ : b 11 = false) => (show w89.heap[gb280]? = some (.cells #[.int .i64 0, .int .i64 0] 24 (0, 0)) from by first | exact (blk_below (g := gb280) (o := .cells #[.int .i64 0, .int .i64 0] 24 (0, 0)) (by (with_reducible repeat (first | refine blk_drewN ?_ _ | refine blk_drew ?_ | refine blk_alloc ?_ _)); exact (Q5 h0_ h1_)) hb))
                            clear BK269
                            clear HB
                            have BK269 := n0_
                            have HB := n1_
                            clear n0_ n1_
                            (try clear hb)
                            (try clear hb2)
                            (try clear hk)
                            (try clear hi)
                            refine hK.out _ _ ⟨gb278, gb279, gb280, m6_, m7_, m8_, (by rw [ha.out]; exact putSel_upk 5 hb_ rfl rfl rfl), (by (with_reducible repeat (first | refine blk_drewN ?_ _ | refine blk_drew ?_ | refine blk_alloc ?_ _)); exact BK269.out), (by repeat (first | (with_reducible first | exact HB.out | apply below_alloc | apply pw_below_drewN | apply below_drew1 | refine below_set ?_ GE269.out) | exact HB.out)), Q21, Q18, Q24, Q19, Q25, Q22, z_BK278, Q10, Q7, Q14, Q17, z_BK279, Q11, Q8, Q15, Q20, z_BK280, Q12, Q9, Q16, Q23, fun h0_ => absurd ((hoff 9 (by kernel_rfl)).symm.trans h0_) (by decide), fun h0_ => absurd ((hoff 10 (by kernel_rfl)).symm.trans h0_) (by decide), fun h0_ => absurd ((hoff 11 (by kernel_rfl)).symm.trans h0_) (by decide), Q26, Q27, Q28⟩
                          refine steps_cons ?_ ?_
                          · rintro b a w' ⟨gb278, gb279, gb280, m6_, m7_, m8_, ha, Q0, Q13, Q21, Q18, Q24, Q19, Q25, Q22, Q1, Q10, Q7, Q14, Q17, Q3, Q11, Q8, Q15, Q20, Q5, Q12, Q9, Q16, Q23, Q2, Q4, Q6, Q26, Q27, Q28⟩ hb_ hon hoff
                            refine ⟨_, rfl, fun K hK => ?_⟩
                            replace ha := Aside0.mk ha
                            have BK269 := Aside0.mk Q0
                            have HB := Aside0.mk Q13
                            refine box_step ?hg (N := 3) ?hd (cs := #[.int .i64 0, .int .i64 0]) (t := 24) ?hr ?_; (case hd => rfl); (case hg => rfl); (case hr => first | (go_simp; done) | (go_simp; rfl))
                            intro gb278 hg w86 hbox hb
                            have n0_ := Aside0.mk (blk_below (g := gb269) (o := .cells #[.int .i64 a0_0, .int .i64 a0_1] 24 (0, 0)) (by (with_reducible repeat (first | refine blk_drewN ?_ _ | refine blk_drew ?_ | refine blk_alloc ?_ _)); exact BK269.out) hb)
                            have n1_ := Aside0.mk (below_step (by repeat (first | (with_reducible first | exact HB.out | apply below_alloc | apply pw_below_drewN | apply below_drew1 | refine below_set ?_ GE269.out) | exact HB.out)) hb)
                            have n2_ := Aside0.mk (hbox)
                            have n3_ := Aside0.mk ((by rw [hg]; exact (below_size (by repeat (first | (with_reducible first | exact HB.out | apply below_alloc | apply pw_below_drewN | apply below_drew1 | refine below_set ?_ GE269.out) | exact HB.out))) : w.heap.size ≤ gb278))
                            have n4_ := Aside0.mk ((by rw [hg]; exact (below_size (by repeat (first | (with_reducible first | exact HB.out | apply below_alloc | apply pw_below_drewN | apply below_drew1 | refine below_set ?_ GE269.out) | exact HB.out))) : w.heap.size ≤ gb278))
                            have n5_ := Aside0.mk ((by rw [hg]; exact Nat.ne_of_lt (blk_lt (g := gb269) (o := .cells #[.int .i64 a0_0, .int .i64 a0_1] 24 (0, 0)) (by (with_reducible repeat (first | refine blk_drewN ?_ _ | refine blk_drew ?_ | refine blk_alloc ?_ _)); exact BK269.out)) : gb269 ≠ gb278))
                            have n6_ := Aside0.mk ((by rw [hg]; exact Nat.ne_of_gt (blk_lt (g := gb269) (o := .cells #[.int .i64 a0_0, .int .i64 a0_1] 24 (0, 0)) (by (with_reducible repeat (first | refine blk_drewN ?_ _ | refine blk_drew ?_ | refine blk_alloc ?_ _)); exact BK269.out)) : gb278 ≠ gb269))
                            have z_NB279_278 := fun (h0_ : up b 6 6 = true) (h1_ : up b 6 7 = true) => (show gb279 ≠ gb278 from ((by rw [hg]; exact Nat.ne_of_lt (blk_lt (g := gb279) (o := .cells #[.int .i64 0, .int .i64 0] 24 (0, 0)) (by (with_reducible repeat (first | refine blk_drewN ?_ _ | refine blk_drew ?_ | refine blk_alloc ?_ _)); exact (Q3 (show b 7 = true from h1_) (hoff 10 (by kernel_rfl))))) : gb279 ≠ gb278)))
                            have z_NB278_279 := fun (h0_ : up b 6 6 = true) (h1_ : up b 6 7 = true) => (show gb278 ≠ gb279 from ((by rw [hg]; exact Nat.ne_of_gt (blk_lt (g := gb279) (o := .cells #[.int .i64 0, .int .i64 0] 24 (0, 0)) (by (with_reducible repeat (first | refine blk_drewN ?_ _ | refine blk_drew ?_ | refine blk_alloc ?_ _)); exact (Q3 (show b 7 = true from h1_) (hoff 10 (by kernel_rfl))))) : gb278 ≠ gb279)))
                            have z_NB280_278 := fun (h0_ : up b 6 6 = true) (h1_ : up b 6 8 = true) => (show gb280 ≠ gb278 from ((by rw [hg]; exact Nat.ne_of_lt (blk_lt (g := gb280) (o := .cells #[.int .i64 0, .int .i64 0] 24 (0, 0)) (by (with_reducible repeat (first | refine blk_drewN ?_ _ | refine blk_drew ?_ | refine blk_alloc ?_ _)); exact (Q5 (show b 8 = true from h1_) (hoff 11 (by kernel_rfl))))) : gb280 ≠ gb278)))
                            have z_NB278_280 := fun (h0_ : up b 6 6 = true) (h1_ : up b 6 8 = true) => (show gb278 ≠ gb280 from ((by rw [hg]; exact Nat.ne_of_gt (blk_lt (g := gb280) (o := .cells #[.int .i64 0, .int .i64 0] 24 (0, 0)) (by (with_reducible repeat (first | refine blk_drewN ?_ _ | refine blk_drew ?_ | refine blk_alloc ?_ _)); exact (Q5 (show b 8 = true from h1_) (hoff 11 (by kernel_rfl))))) : gb278 ≠ gb280)))
                            have z_BK279 := fun (h0_ : b 7 = true) (h1_ : b 10 = false) => (show w86.heap[gb279]? = some (.cells #[.int .i64 0, .int .i64 0] 24 (0, 0)) from by first | exact (blk_below (g := gb279) (o := .cells #[.int .i64 0, .int .i64 0] 24 (0, 0)) (by (with_reducible repeat (first | refine blk_drewN ?_ _ | refine blk_drew ?_ | refine blk_alloc ?_ _)); exact (Q3 h0_ h1_)) hb))
                            have z_BK280 := fun (h0_ : b 8 = true) (h1_ : b 11 = false) => (show w86.heap[gb280]? = some (.cells #[.int .i64 0, .int .i64 0] 24 (0, 0)) from by first | exact (blk_below (g := gb280) (o := .cells #[.int .i64 0, .int .i64 0] 24 (0, 0)) (by (with_reducible repeat (first | refine blk_drewN ?_ _ | refine blk_drew ?_ | refine blk_alloc ?_ _)); exact (Q5 h0_ h1_)) hb))
                            clear BK269
                            clear HB
                            have BK269 := n0_
                            have HB := n1_
                            have BK278 := n2_
                            have GW278 := n3_
                            have GE278 := n4_
                            have NB269_278 := n5_
                            have NB278_269 := n6_
                            clear n0_ n1_ n2_ n3_ n4_ n5_ n6_
                            clear hb hbox hg
                            refine hK.out _ _ ⟨gb278, gb279, gb280, (.pointer (some ⟨gb278, 0, none⟩)), m7_, m8_, (by rw [ha.out]; exact putSel_upk 6 hb_ rfl rfl rfl), (by (with_reducible repeat (first | refine blk_drewN ?_ _ | refine blk_drew ?_ | refine blk_alloc ?_ _)); exact BK269.out), (by repeat (first | (with_reducible first | exact HB.out | apply below_alloc | apply pw_below_drewN | apply below_drew1 | refine below_set ?_ GE269.out | refine below_set ?_ GE278.out) | exact HB.out)), @z_NB279_278, @z_NB278_279, @z_NB280_278, @z_NB278_280, Q25, Q22, fun _ _ => (by (with_reducible repeat (first | refine blk_drewN ?_ _ | refine blk_drew ?_ | refine blk_alloc ?_ _)); exact BK278.out), fun _ => GW278.out, fun _ => GE278.out, fun _ => NB269_278.out, fun _ => NB278_269.out, z_BK279, Q11, Q8, Q15, Q20, z_BK280, Q12, Q9, Q16, Q23, fun h0_ => absurd ((hoff 9 (by kernel_rfl)).symm.trans h0_) (by decide), fun h0_ => absurd ((hoff 10 (by kernel_rfl)).symm.trans h0_) (by decide), fun h0_ => absurd ((hoff 11 (by kernel_rfl)).symm.trans h0_) (by decide), fun _ => rfl, Q27, Q28⟩
                          refine steps_cons ?_ ?_
                          · rintro b a w' ⟨gb278, gb279, gb280, m6_, m7_, m8_, ha, Q0, Q13, Q21, Q18, Q24, Q19, Q25, Q22, Q1, Q10, Q7, Q14, Q17, Q3, Q11, Q8, Q15, Q20, Q5, Q12, Q9, Q16, Q23, Q2, Q4, Q6, Q26, Q27, Q28⟩ hb_ hon hoff
                            refine ⟨_, rfl, fun K hK => ?_⟩
                            replace ha := Aside0.mk ha
                            have BK269 := Aside0.mk Q0
                            have HB := Aside0.mk Q13
                            refine box_step ?hg (N := 4) ?hd (cs := #[.int .i64 0, .int .i64 0]) (t := 24) ?hr ?_; (case hd => rfl); (case hg => rfl); (case hr => first | (go_simp; done) | (go_simp; rfl))
                            intro gb279 hg w86 hbox hb
                            have n0_ := Aside0.mk (blk_below (g := gb269) (o := .cells #[.int .i64 a0_0, .int .i64 a0_1] 24 (0, 0)) (by (with_reducible repeat (first | refine blk_drewN ?_ _ | refine blk_drew ?_ | refine blk_alloc ?_ _)); exact BK269.out) hb)
                            have n1_ := Aside0.mk (below_step (by repeat (first | (with_reducible first | exact HB.out | apply below_alloc | apply pw_below_drewN | apply below_drew1 | refine below_set ?_ GE269.out) | exact HB.out)) hb)
                            have n2_ := Aside0.mk (hbox)
                            have n3_ := Aside0.mk ((by rw [hg]; exact (below_size (by repeat (first | (with_reducible first | exact HB.out | apply below_alloc | apply pw_below_drewN | apply below_drew1 | refine below_set ?_ GE269.out) | exact HB.out))) : w.heap.size ≤ gb279))
                            have n4_ := Aside0.mk ((by rw [hg]; exact (below_size (by repeat (first | (with_reducible first | exact HB.out | apply below_alloc | apply pw_below_drewN | apply below_drew1 | refine below_set ?_ GE269.out) | exact HB.out))) : w.heap.size ≤ gb279))
                            have n5_ := Aside0.mk ((by rw [hg]; exact Nat.ne_of_lt (blk_lt (g := gb269) (o := .cells #[.int .i64 a0_0, .int .i64 a0_1] 24 (0, 0)) (by (with_reducible repeat (first | refine blk_drewN ?_ _ | refine blk_drew ?_ | refine blk_alloc ?_ _)); exact BK269.out)) : gb269 ≠ gb279))
                            have n6_ := Aside0.mk ((by rw [hg]; exact Nat.ne_of_gt (blk_lt (g := gb269) (o := .cells #[.int .i64 a0_0, .int .i64 a0_1] 24 (0, 0)) (by (with_reducible repeat (first | refine blk_drewN ?_ _ | refine blk_drew ?_ | refine blk_alloc ?_ _)); exact BK269.out)) : gb279 ≠ gb269))
                            have z_NB279_278 := fun (h0_ : up b 7 6 = true) (h1_ : up b 7 7 = true) => (show gb279 ≠ gb278 from ((by rw [hg]; exact Nat.ne_of_gt (blk_lt (g := gb278) (o := .cells #[.int .i64 0, .int .i64 0] 24 (0, 0)) (by (with_reducible repeat (first | refine blk_drewN ?_ _ | refine blk_drew ?_ | refine blk_alloc ?_ _)); exact (Q1 (show b 6 = true from h0_) (hoff 9 (by kernel_rfl))))) : gb279 ≠ gb278)))
                            have z_NB278_279 := fun (h0_ : up b 7 6 = true) (h1_ : up b 7 7 = true) => (show gb278 ≠ gb279 from ((by rw [hg]; exact Nat.ne_of_lt (blk_lt (g := gb278) (o := .cells #[.int .i64 0, .int .i64 0] 24 (0, 0)) (by (with_reducible repeat (first | refine blk_drewN ?_ _ | refine blk_drew ?_ | refine blk_alloc ?_ _)); exact (Q1 (show b 6 = true from h0_) (hoff 9 (by kernel_rfl))))) : gb278 ≠ gb279)))
                            have z_NB280_279 := fun (h0_ : up b 7 7 = true) (h1_ : up b 7 8 = true) => (show gb280 ≠ gb279 from ((by rw [hg]; exact Nat.ne_of_lt (blk_lt (g := gb280) (o := .cells #[.int .i64 0, .int .i64 0] 24 (0, 0)) (by (with_reducible repeat (first | refine blk_drewN ?_ _ | refine blk_drew ?_ | refine blk_alloc ?_ _)); exact (Q5 (show b 8 = true from h1_) (hoff 11 (by kernel_rfl))))) : gb280 ≠ gb279)))
                            have z_NB279_280 := fun (h0_ : up b 7 7 = true) (h1_ : up b 7 8 = true) => (show gb279 ≠ gb280 from ((by rw [hg]; exact Nat.ne_of_gt (blk_lt (g := gb280) (o := .cells #[.int .i64 0, .int .i64 0] 24 (0, 0)) (by (with_reducible repeat (first | refine blk_drewN ?_ _ | refine blk_drew ?_ | refine blk_alloc ?_ _)); exact (Q5 (show b 8 = true from h1_) (hoff 11 (by kernel_rfl))))) : gb279 ≠ gb280)))
                            have z_BK278 := fun (h0_ : b 6 = true) (h1_ : b 9 = false) => (show w86.heap[gb278]? = some (.cells #[.int .i64 0, .int .i64 0] 24 (0, 0)) from by first | exact (blk_below (g := gb278) (o := .cells #[.int .i64 0, .int .i64 0] 24 (0, 0)) (by (with_reducible repeat (first | refine blk_drewN ?_ _ | refine blk_drew ?_ | refine blk_alloc ?_ _)); exact (Q1 h0_ h1_)) hb))
                            have z_BK280 := fun (h0_ : b 8 = true) (h1_ : b 11 = false) => (show w86.heap[gb280]? = some (.cells #[.int .i64 0, .int .i64 0] 24 (0, 0)) from by first | exact (blk_below (g := gb280) (o := .cells #[.int .i64 0, .int .i64 0] 24 (0, 0)) (by (with_reducible repeat (first | refine blk_drewN ?_ _ | refine blk_drew ?_ | refine blk_alloc ?_ _)); exact (Q5 h0_ h1_)) hb))
                            clear BK269
                            clear HB
                            have BK269 := n0_
                            have HB := n1_
                            have BK279 := n2_
                            have GW279 := n3_
                            have GE279 := n4_
                            have NB269_279 := n5_
                            have NB279_269 := n6_
                            clear n0_ n1_ n2_ n3_ n4_ n5_ n6_
                            clear hb hbox hg
                            refine hK.out _ _ ⟨gb278, gb279, gb280, m6_, (.pointer (some ⟨gb279, 0, none⟩)), m8_, (by rw [ha.out]; exact putSel_upk 7 hb_ rfl rfl rfl), (by (with_reducible repeat (first | refine blk_drewN ?_ _ | refine blk_drew ?_ | refine blk_alloc ?_ _)); exact BK269.out), (by repeat (first | (with_reducible first | exact HB.out | apply below_alloc | apply pw_below_drewN | apply below_drew1 | refine below_set ?_ GE269.out | refine below_set ?_ GE279.out) | exact HB.out)), @z_NB279_278, @z_NB278_279, Q24, Q19, @z_NB280_279, @z_NB279_280, z_BK278, Q10, Q7, Q14, Q17, fun _ _ => (by (with_reducible repeat (first | refine blk_drewN ?_ _ | refine blk_drew ?_ | refine blk_alloc ?_ _)); exact BK279.out), fun _ => GW279.out, fun _ => GE279.out, fun _ => NB269_279.out, fun _ => NB279_269.out, z_BK280, Q12, Q9, Q16, Q23, fun h0_ => absurd ((hoff 9 (by kernel_rfl)).symm.trans h0_) (by decide), fun h0_ => absurd ((hoff 10 (by kernel_rfl)).symm.trans h0_) (by decide), fun h0_ => absurd ((hoff 11 (by kernel_rfl)).symm.trans h0_) (by decide), Q26, fun _ => rfl, Q28⟩
                          refine steps_cons ?_ ?_
                          · rintro b a w' ⟨gb278, gb279, gb280, m6_, m7_, m8_, ha, Q0, Q13, Q21, Q18, Q24, Q19, Q25, Q22, Q1, Q10, Q7, Q14, Q17, Q3, Q11, Q8, Q15, Q20, Q5, Q12, Q9, Q16, Q23, Q2, Q4, Q6, Q26, Q27, Q28⟩ hb_ hon hoff
                            refine ⟨_, rfl, fun K hK => ?_⟩
                            replace ha := Aside0.mk ha
                            have BK269 := Aside0.mk Q0
                            have HB := Aside0.mk Q13
                            refine box_step ?hg (N := 5) ?hd (cs := #[.int .i64 0, .int .i64 0]) (t := 24) ?hr ?_; (case hd => rfl); (case hg => rfl); (case hr => first | (go_simp; done) | (go_simp; rfl))
                            intro gb280 hg w86 hbox hb
                            have n0_ := Aside0.mk (blk_below (g := gb269) (o := .cells #[.int .i64 a0_0, .int .i64 a0_1] 24 (0, 0)) (by (with_reducible repeat (first | refine blk_drewN ?_ _ | refine blk_drew ?_ | refine blk_alloc ?_ _)); exact BK269.out) hb)
                            have n1_ := Aside0.mk (below_step (by repeat (first | (with_reducible first | exact HB.out | apply below_alloc | apply pw_below_drewN | apply below_drew1 | refine below_set ?_ GE269.out) | exact HB.out)) hb)
                            have n2_ := Aside0.mk (hbox)
                            have n3_ := Aside0.mk ((by rw [hg]; exact (below_size (by repeat (first | (with_reducible first | exact HB.out | apply below_alloc | apply pw_below_drewN | apply below_drew1 | refine below_set ?_ GE269.out) | exact HB.out))) : w.heap.size ≤ gb280))
                            have n4_ := Aside0.mk ((by rw [hg]; exact (below_size (by repeat (first | (with_reducible first | exact HB.out | apply below_alloc | apply pw_below_drewN | apply below_drew1 | refine below_set ?_ GE269.out) | exact HB.out))) : w.heap.size ≤ gb280))
                            have n5_ := Aside0.mk ((by rw [hg]; exact Nat.ne_of_lt (blk_lt (g := gb269) (o := .cells #[.int .i64 a0_0, .int .i64 a0_1] 24 (0, 0)) (by (with_reducible repeat (first | refine blk_drewN ?_ _ | refine blk_drew ?_ | refine blk_alloc ?_ _)); exact BK269.out)) : gb269 ≠ gb280))
                            have n6_ := Aside0.mk ((by rw [hg]; exact Nat.ne_of_gt (blk_lt (g := gb269) (o := .cells #[.int .i64 a0_0, .int .i64 a0_1] 24 (0, 0)) (by (with_reducible repeat (first | refine blk_drewN ?_ _ | refine blk_drew ?_ | refine blk_alloc ?_ _)); exact BK269.out)) : gb280 ≠ gb269))
                            have z_NB280_278 := fun (h0_ : up b 8 6 = true) (h1_ : up b 8 8 = true) => (show gb280 ≠ gb278 from ((by rw [hg]; exact Nat.ne_of_gt (blk_lt (g := gb278) (o := .cells #[.int .i64 0, .int .i64 0] 24 (0, 0)) (by (with_reducible repeat (first | refine blk_drewN ?_ _ | refine blk_drew ?_ | refine blk_alloc ?_ _)); exact (Q1 (show b 6 = true from h0_) (hoff 9 (by kernel_rfl))))) : gb280 ≠ gb278)))
                            have z_NB278_280 := fun (h0_ : up b 8 6 = true) (h1_ : up b 8 8 = true) => (show gb278 ≠ gb280 from ((by rw [hg]; exact Nat.ne_of_lt (blk_lt (g := gb278) (o := .cells #[.int .i64 0, .int .i64 0] 24 (0, 0)) (by (with_reducible repeat (first | refine blk_drewN ?_ _ | refine blk_drew ?_ | refine blk_alloc ?_ _)); exact (Q1 (show b 6 = true from h0_) (hoff 9 (by kernel_rfl))))) : gb278 ≠ gb280)))
                            have z_NB280_279 := fun (h0_ : up b 8 7 = true) (h1_ : up b 8 8 = true) => (show gb280 ≠ gb279 from ((by rw [hg]; exact Nat.ne_of_gt (blk_lt (g := gb279) (o := .cells #[.int .i64 0, .int .i64 0] 24 (0, 0)) (by (with_reducible repeat (first | refine blk_drewN ?_ _ | refine blk_drew ?_ | refine blk_alloc ?_ _)); exact (Q3 (show b 7 = true from h0_) (hoff 10 (by kernel_rfl))))) : gb280 ≠ gb279)))
                            have z_NB279_280 := fun (h0_ : up b 8 7 = true) (h1_ : up b 8 8 = true) => (show gb279 ≠ gb280 from ((by rw [hg]; exact Nat.ne_of_lt (blk_lt (g := gb279) (o := .cells #[.int .i64 0, .int .i64 0] 24 (0, 0)) (by (with_reducible repeat (first | refine blk_drewN ?_ _ | refine blk_drew ?_ | refine blk_alloc ?_ _)); exact (Q3 (show b 7 = true from h0_) (hoff 10 (by kernel_rfl))))) : gb279 ≠ gb280)))
                            have z_BK278 := fun (h0_ : b 6 = true) (h1_ : b 9 = false) => (show w86.heap[gb278]? = some (.cells #[.int .i64 0, .int .i64 0] 24 (0, 0)) from by first | exact (blk_below (g := gb278) (o := .cells #[.int .i64 0, .int .i64 0] 24 (0, 0)) (by (with_reducible repeat (first | refine blk_drewN ?_ _ | refine blk_drew ?_ | refine blk_alloc ?_ _)); exact (Q1 h0_ h1_)) hb))
                            have z_BK279 := fun (h0_ : b 7 = true) (h1_ : b 10 = false) => (show w86.heap[gb279]? = some (.cells #[.int .i64 0, .int .i64 0] 24 (0, 0)) from by first | exact (blk_below (g := gb279) (o := .cells #[.int .i64 0, .int .i64 0] 24 (0, 0)) (by (with_reducible repeat (first | refine blk_drewN ?_ _ | refine blk_drew ?_ | refine blk_alloc ?_ _)); exact (Q3 h0_ h1_)) hb))
                            clear BK269
                            clear HB
                            have BK269 := n0_
                            have HB := n1_
                            have BK280 := n2_
                            have GW280 := n3_
                            have GE280 := n4_
                            have NB269_280 := n5_
                            have NB280_269 := n6_
                            clear n0_ n1_ n2_ n3_ n4_ n5_ n6_
                            clear hb hbox hg
                            refine hK.out _ _ ⟨gb278, gb279, gb280, m6_, m7_, (.pointer (some ⟨gb280, 0, none⟩)), (by rw [ha.out]; exact putSel_upk 8 hb_ rfl rfl rfl), (by (with_reducible repeat (first | refine blk_drewN ?_ _ | refine blk_drew ?_ | refine blk_alloc ?_ _)); exact BK269.out), (by repeat (first | (with_reducible first | exact HB.out | apply below_alloc | apply pw_below_drewN | apply below_drew1 | refine below_set ?_ GE269.out | refine below_set ?_ GE280.out) | exact HB.out)), Q21, Q18, @z_NB280_278, @z_NB278_280, @z_NB280_279, @z_NB279_280, z_BK278, Q10, Q7, Q14, Q17, z_BK279, Q11, Q8, Q15, Q20, fun _ _ => (by (with_reducible repeat (first | refine blk_drewN ?_ _ | refine blk_drew ?_ | refine blk_alloc ?_ _)); exact BK280.out), fun _ => GW280.out, fun _ => GE280.out, fun _ => NB269_280.out, fun _ => NB280_269.out, fun h0_ => absurd ((hoff 9 (by kernel_rfl)).symm.trans h0_) (by decide), fun h0_ => absurd ((hoff 10 (by kernel_rfl)).symm.trans h0_) (by decide), fun h0_ => absurd ((hoff 11 (by kernel_rfl)).symm.trans h0_) (by decide), Q26, Q27, fun _ => rfl⟩
                          refine steps_cons ?_ ?_
                          · rintro b a w' ⟨gb278, gb279, gb280, m6_, m7_, m8_, ha, Q0, Q13, Q21, Q18, Q24, Q19, Q25, Q22, Q1, Q10, Q7, Q14, Q17, Q3, Q11, Q8, Q15, Q20, Q5, Q12, Q9, Q16, Q23, Q2, Q4, Q6, Q26, Q27, Q28⟩ hb_ hon hoff
                            refine ⟨_, rfl, fun K hK => ?_⟩
                            have e3 : a.tmps[3]? = some (m6_) := by rw [ha]; exact putSel_on (e := (6, 3, m6_)) 6 rfl rfl (hon 6 (by kernel_rfl)) rfl
                            rw [Q26 (hon 6 (by kernel_rfl))] at e3
                            have e17 : a.tmps[17]? = some (.agg #[.int .i64 t272, .int .i64 t273]) := by rw [ha]; exact putSel_on (e := (1, 17, .agg #[.int .i64 t272, .int .i64 t273])) 1 rfl rfl (hon 1 (by kernel_rfl)) rfl
                            replace ha := Aside0.mk ha
                            have BK269 := Aside0.mk Q0
                            have HB := Aside0.mk Q13
                            have NB279_278 := Aside0.mk (Q21 (hon 6 (by kernel_rfl)) (hon 7 (by kernel_rfl)))
                            have NB278_279 := Aside0.mk (Q18 (hon 6 (by kernel_rfl)) (hon 7 (by kernel_rfl)))
                            have NB280_278 := Aside0.mk (Q24 (hon 6 (by kernel_rfl)) (hon 8 (by kernel_rfl)))
                            have NB278_280 := Aside0.mk (Q19 (hon 6 (by kernel_rfl)) (hon 8 (by kernel_rfl)))
                            have NB280_279 := Aside0.mk (Q25 (hon 7 (by kernel_rfl)) (hon 8 (by kernel_rfl)))
                            have NB279_280 := Aside0.mk (Q22 (hon 7 (by kernel_rfl)) (hon 8 (by kernel_rfl)))
                            have BK278 := Aside0.mk (Q1 (hon 6 (by kernel_rfl)) hb_)
                            have GW278 := Aside0.mk (Q10 (hon 6 (by kernel_rfl)))
                            have GE278 := Aside0.mk (Q7 (hon 6 (by kernel_rfl)))
                            have NB269_278 := Aside0.mk (Q14 (hon 6 (by kernel_rfl)))
                            have NB278_269 := Aside0.mk (Q17 (hon 6 (by kernel_rfl)))
                            have BK279 := Aside0.mk (Q3 (hon 7 (by kernel_rfl)) (hoff 10 (by kernel_rfl)))
                            have GW279 := Aside0.mk (Q11 (hon 7 (by kernel_rfl)))
                            have GE279 := Aside0.mk (Q8 (hon 7 (by kernel_rfl)))
                            have NB269_279 := Aside0.mk (Q15 (hon 7 (by kernel_rfl)))
                            have NB279_269 := Aside0.mk (Q20 (hon 7 (by kernel_rfl)))
                            have BK280 := Aside0.mk (Q5 (hon 8 (by kernel_rfl)) (hoff 11 (by kernel_rfl)))
                            have GW280 := Aside0.mk (Q12 (hon 8 (by kernel_rfl)))
                            have GE280 := Aside0.mk (Q9 (hon 8 (by kernel_rfl)))
                            have NB269_280 := Aside0.mk (Q16 (hon 8 (by kernel_rfl)))
                            have NB280_269 := Aside0.mk (Q23 (hon 8 (by kernel_rfl)))
                            have hs93 : w'.cell? ⟨gb278, 0, none⟩ = some (.int .i64 0) := (blk_cell BK278.out 0).trans rfl
                            have hfs93 := blk_frozen BK278.out 0
                            have hns93_0 := NB269_278.out
                            have hns93_2 := NB279_278.out
                            have hns93_3 := NB280_278.out
                            have hms93_0 := NB278_269.out
                            have hms93_2 := NB278_279.out
                            have hms93_3 := NB278_280.out
                            have hs94 : w'.cell? ⟨gb278, 1, none⟩ = some (.int .i64 0) := (blk_cell BK278.out 1).trans rfl
                            have hfs94 := blk_frozen BK278.out 1
                            have hns94_0 := NB269_278.out
                            have hns94_2 := NB279_278.out
                            have hns94_3 := NB280_278.out
                            have hms94_0 := NB278_269.out
                            have hms94_2 := NB278_279.out
                            have hms94_3 := NB278_280.out
                            refine skip_ (w1 := ?_) (by rfl) rfl ?_ ?_
                            rotate_left
                            · go_simp
                              rfl
                            refine hK.out _ _ ⟨gb278, gb279, gb280, m6_, m7_, m8_, (by rw [ha.out]; exact putSel_none (v := undef) rfl), (by (with_reducible repeat (first | refine blk_drewN ?_ _ | refine blk_drew ?_ | refine blk_alloc ?_ _)); refine blk_far ?_ NB269_278.out _; (with_reducible repeat (first | refine blk_drewN ?_ _ | refine blk_drew ?_ | refine blk_alloc ?_ _)); refine blk_far ?_ NB269_278.out _; (with_reducible repeat (first | refine blk_drewN ?_ _ | refine blk_drew ?_ | refine blk_alloc ?_ _)); exact BK269.out), (by repeat (first | (with_reducible first | exact HB.out | apply below_alloc | apply pw_below_drewN | apply below_drew1 | refine below_set ?_ GE269.out | refine below_set ?_ GE278.out | refine below_set ?_ GE279.out | refine below_set ?_ GE280.out) | exact HB.out)), fun _ _ => NB279_278.out, fun _ _ => NB278_279.out, fun _ _ => NB280_278.out, fun _ _ => NB278_280.out, fun _ _ => NB280_279.out, fun _ _ => NB279_280.out, fun _ h1_ => absurd ((up_self b 9).symm.trans h1_) (by decide), fun _ => GW278.out, fun _ => GE278.out, fun _ => NB269_278.out, fun _ => NB278_269.out, fun _ _ => (by (with_reducible repeat (first | refine blk_drewN ?_ _ | refine blk_drew ?_ | refine blk_alloc ?_ _)); refine blk_far ?_ NB279_278.out _; (with_reducible repeat (first | refine blk_drewN ?_ _ | refine blk_drew ?_ | refine blk_alloc ?_ _)); refine blk_far ?_ NB279_278.out _; (with_reducible repeat (first | refine blk_drewN ?_ _ | refine blk_drew ?_ | refine blk_alloc ?_ _)); exact BK279.out), fun _ => GW279.out, fun _ => GE279.out, fun _ => NB269_279.out, fun _ => NB279_269.out, fun _ _ => (by (with_reducible repeat (first | refine blk_drewN ?_ _ | refine blk_drew ?_ | refine blk_alloc ?_ _)); refine blk_far ?_ NB280_278.out _; (with_reducible repeat (first | refine blk_drewN ?_ _ | refine blk_drew ?_ | refine blk_alloc ?_ _)); refine blk_far ?_ NB280_278.out _; (with_reducible repeat (first | refine blk_drewN ?_ _ | refine blk_drew ?_ | refine blk_alloc ?_ _)); exact BK280.out), fun _ => GW280.out, fun _ => GE280.out, fun _ => NB269_280.out, fun _ => NB280_269.out, fun _ => (by (with_reducible repeat (first | refine blk_drewN ?_ _ | refine blk_drew ?_ | refine blk_alloc ?_ _)); refine blk_put (cs := #[.int .i64 t272, .int .i64 0]) ?_ 1 _ rfl; (with_reducible repeat (first | refine blk_drewN ?_ _ | refine blk_drew ?_ | refine blk_alloc ?_ _)); refine blk_put (cs := #[.int .i64 0, .int .i64 0]) ?_ 0 _ rfl; (with_reducible repeat (first | refine blk_drewN ?_ _ | refine blk_drew ?_ | refine blk_alloc ?_ _)); exact BK278.out), fun h0_ => absurd ((hoff 10 (by kernel_rfl)).symm.trans h0_) (by decide), fun h0_ => absurd ((hoff 11 (by kernel_rfl)).symm.trans h0_) (by decide), Q26, Q27, Q28⟩
                          refine steps_cons ?_ ?_
                          · rintro b a w' ⟨gb278, gb279, gb280, m6_, m7_, m8_, ha, Q0, Q13, Q21, Q18, Q24, Q19, Q25, Q22, Q1, Q10, Q7, Q14, Q17, Q3, Q11, Q8, Q15, Q20, Q5, Q12, Q9, Q16, Q23, Q2, Q4, Q6, Q26, Q27, Q28⟩ hb_ hon hoff
                            refine ⟨_, rfl, fun K hK => ?_⟩
                            have e4 : a.tmps[4]? = some (m7_) := by rw [ha]; exact putSel_on (e := (7, 4, m7_)) 7 rfl rfl (hon 7 (by kernel_rfl)) rfl
                            rw [Q27 (hon 7 (by kernel_rfl))] at e4
                            have e19 : a.tmps[19]? = some (.agg #[.int .i64 t274, .int .i64 t275]) := by rw [ha]; exact putSel_on (e := (3, 19, .agg #[.int .i64 t274, .int .i64 t275])) 3 rfl rfl (hon 3 (by kernel_rfl)) rfl
                            replace ha := Aside0.mk ha
                            have BK269 := Aside0.mk Q0
                            have HB := Aside0.mk Q13
                            have NB279_278 := Aside0.mk (Q21 (hon 6 (by kernel_rfl)) (hon 7 (by kernel_rfl)))
                            have NB278_279 := Aside0.mk (Q18 (hon 6 (by kernel_rfl)) (hon 7 (by kernel_rfl)))
                            have NB280_278 := Aside0.mk (Q24 (hon 6 (by kernel_rfl)) (hon 8 (by kernel_rfl)))
                            have NB278_280 := Aside0.mk (Q19 (hon 6 (by kernel_rfl)) (hon 8 (by kernel_rfl)))
                            have NB280_279 := Aside0.mk (Q25 (hon 7 (by kernel_rfl)) (hon 8 (by kernel_rfl)))
                            have NB279_280 := Aside0.mk (Q22 (hon 7 (by kernel_rfl)) (hon 8 (by kernel_rfl)))
                            have GW278 := Aside0.mk (Q10 (hon 6 (by kernel_rfl)))
                            have GE278 := Aside0.mk (Q7 (hon 6 (by kernel_rfl)))
                            have NB269_278 := Aside0.mk (Q14 (hon 6 (by kernel_rfl)))
                            have NB278_269 := Aside0.mk (Q17 (hon 6 (by kernel_rfl)))
                            have BK279 := Aside0.mk (Q3 (hon 7 (by kernel_rfl)) hb_)
                            have GW279 := Aside0.mk (Q11 (hon 7 (by kernel_rfl)))
                            have GE279 := Aside0.mk (Q8 (hon 7 (by kernel_rfl)))
                            have NB269_279 := Aside0.mk (Q15 (hon 7 (by kernel_rfl)))
                            have NB279_269 := Aside0.mk (Q20 (hon 7 (by kernel_rfl)))
                            have BK280 := Aside0.mk (Q5 (hon 8 (by kernel_rfl)) (hoff 11 (by kernel_rfl)))
                            have GW280 := Aside0.mk (Q12 (hon 8 (by kernel_rfl)))
                            have GE280 := Aside0.mk (Q9 (hon 8 (by kernel_rfl)))
                            have NB269_280 := Aside0.mk (Q16 (hon 8 (by kernel_rfl)))
                            have NB280_269 := Aside0.mk (Q23 (hon 8 (by kernel_rfl)))
                            have BK278 := Aside0.mk (Q2 (hon 9 (by kernel_rfl)))
                            have hs95 : w'.cell? ⟨gb279, 0, none⟩ = some (.int .i64 0) := (blk_cell BK279.out 0).trans rfl
                            have hfs95 := blk_frozen BK279.out 0
                            have hns95_0 := NB269_279.out
                            have hns95_1 := NB278_279.out
                            have hns95_3 := NB280_279.out
                            have hms95_0 := NB279_269.out
                            have hms95_1 := NB279_278.out
                            have hms95_3 := NB279_280.out
                            have hs96 : w'.cell? ⟨gb279, 1, none⟩ = some (.int .i64 0) := (blk_cell BK279.out 1).trans rfl
                            have hfs96 := blk_frozen BK279.out 1
                            have hns96_0 := NB269_279.out
                            have hns96_1 := NB278_279.out
                            have hns96_3 := NB280_279.out
                            have hms96_0 := NB279_269.out
                            have hms96_1 := NB279_278.out
                            have hms96_3 := NB279_280.out
                            refine skip_ (w1 := ?_) (by rfl) rfl ?_ ?_
                            rotate_left
                            · go_simp
                              rfl
                            refine hK.out _ _ ⟨gb278, gb279, gb280, m6_, m7_, m8_, (by rw [ha.out]; exact putSel_none (v := undef) rfl), (by (with_reducible repeat (first | refine blk_drewN ?_ _ | refine blk_drew ?_ | refine blk_alloc ?_ _)); refine blk_far ?_ NB269_279.out _; (with_reducible repeat (first | refine blk_drewN ?_ _ | refine blk_drew ?_ | refine blk_alloc ?_ _)); refine blk_far ?_ NB269_279.out _; (with_reducible repeat (first | refine blk_drewN ?_ _ | refine blk_drew ?_ | refine blk_alloc ?_ _)); exact BK269.out), (by repeat (first | (with_reducible first | exact HB.out | apply below_alloc | apply pw_below_drewN | apply below_drew1 | refine below_set ?_ GE269.out | refine below_set ?_ GE278.out | refine below_set ?_ GE279.out | refine below_set ?_ GE280.out) | exact HB.out)), fun _ _ => NB279_278.out, fun _ _ => NB278_279.out, fun _ _ => NB280_278.out, fun _ _ => NB278_280.out, fun _ _ => NB280_279.out, fun _ _ => NB279_280.out, fun _ h1_ => absurd ((hon 9 (by kernel_rfl)).symm.trans h1_) (by decide), fun _ => GW278.out, fun _ => GE278.out, fun _ => NB269_278.out, fun _ => NB278_269.out, fun _ h1_ => absurd ((up_self b 10).symm.trans h1_) (by decide), fun _ => GW279.out, fun _ => GE279.out, fun _ => NB269_279.out, fun _ => NB279_269.out, fun _ _ => (by (with_reducible repeat (first | refine blk_drewN ?_ _ | refine blk_drew ?_ | refine blk_alloc ?_ _)); refine blk_far ?_ NB280_279.out _; (with_reducible repeat (first | refine blk_drewN ?_ _ | refine blk_drew ?_ | refine blk_alloc ?_ _)); refine blk_far ?_ NB280_279.out _; (with_reducible repeat (first | refine blk_drewN ?_ _ | refine blk_drew ?_ | refine blk_alloc ?_ _)); exact BK280.out), fun _ => GW280.out, fun _ => GE280.out, fun _ => NB269_280.out, fun _ => NB280_269.out, fun _ => (by (with_reducible repeat (first | refine blk_drewN ?_ _ | refine blk_drew ?_ | refine blk_alloc ?_ _)); refine blk_far ?_ NB278_279.out _; (with_reducible repeat (first | refine blk_drewN ?_ _ | refine blk_drew ?_ | refine blk_alloc ?_ _)); refine blk_far ?_ NB278_279.out _; (with_reducible repeat (first | refine blk_drewN ?_ _ | refine blk_drew ?_ | refine blk_alloc ?_ _)); exact BK278.out), fun _ => (by (with_reducible repeat (first | refine blk_drewN ?_ _ | refine blk_drew ?_ | refine blk_alloc ?_ _)); refine blk_put (cs := #[.int .i64 t274, .int .i64 0]) ?_ 1 _ rfl; (with_reducible repeat (first | refine blk_drewN ?_ _ | refine blk_drew ?_ | refine blk_alloc ?_ _)); refine blk_put (cs := #[.int .i64 0, .int .i64 0]) ?_ 0 _ rfl; (with_reducible repeat (first | refine blk_drewN ?_ _ | refine blk_drew ?_ | refine blk_alloc ?_ _)); exact BK279.out), fun h0_ => absurd ((hoff 11 (by kernel_rfl)).symm.trans h0_) (by decide), Q26, Q27, Q28⟩
                          refine steps_cons ?_ ?_
                          · rintro b a w' ⟨gb278, gb279, gb280, m6_, m7_, m8_, ha, Q0, Q13, Q21, Q18, Q24, Q19, Q25, Q22, Q1, Q10, Q7, Q14, Q17, Q3, Q11, Q8, Q15, Q20, Q5, Q12, Q9, Q16, Q23, Q2, Q4, Q6, Q26, Q27, Q28⟩ hb_ hon hoff
                            refine ⟨_, rfl, fun K hK => ?_⟩
                            have e5 : a.tmps[5]? = some (m8_) := by rw [ha]; exact putSel_on (e := (8, 5, m8_)) 8 rfl rfl (hon 8 (by kernel_rfl)) rfl
                            rw [Q28 (hon 8 (by kernel_rfl))] at e5
                            have e21 : a.tmps[21]? = some (.agg #[.int .i64 t276, .int .i64 t277]) := by rw [ha]; exact putSel_on (e := (5, 21, .agg #[.int .i64 t276, .int .i64 t277])) 5 rfl rfl (hon 5 (by kernel_rfl)) rfl
                            replace ha := Aside0.mk ha
                            have BK269 := Aside0.mk Q0
                            have HB := Aside0.mk Q13
                            have NB279_278 := Aside0.mk (Q21 (hon 6 (by kernel_rfl)) (hon 7 (by kernel_rfl)))
                            have NB278_279 := Aside0.mk (Q18 (hon 6 (by kernel_rfl)) (hon 7 (by kernel_rfl)))
                            have NB280_278 := Aside0.mk (Q24 (hon 6 (by kernel_rfl)) (hon 8 (by kernel_rfl)))
                            have NB278_280 := Aside0.mk (Q19 (hon 6 (by kernel_rfl)) (hon 8 (by kernel_rfl)))
                            have NB280_279 := Aside0.mk (Q25 (hon 7 (by kernel_rfl)) (hon 8 (by kernel_rfl)))
                            have NB279_280 := Aside0.mk (Q22 (hon 7 (by kernel_rfl)) (hon 8 (by kernel_rfl)))
                            have GW278 := Aside0.mk (Q10 (hon 6 (by kernel_rfl)))
                            have GE278 := Aside0.mk (Q7 (hon 6 (by kernel_rfl)))
                            have NB269_278 := Aside0.mk (Q14 (hon 6 (by kernel_rfl)))
                            have NB278_269 := Aside0.mk (Q17 (hon 6 (by kernel_rfl)))
                            have GW279 := Aside0.mk (Q11 (hon 7 (by kernel_rfl)))
                            have GE279 := Aside0.mk (Q8 (hon 7 (by kernel_rfl)))
                            have NB269_279 := Aside0.mk (Q15 (hon 7 (by kernel_rfl)))
                            have NB279_269 := Aside0.mk (Q20 (hon 7 (by kernel_rfl)))
                            have BK280 := Aside0.mk (Q5 (hon 8 (by kernel_rfl)) hb_)
                            have GW280 := Aside0.mk (Q12 (hon 8 (by kernel_rfl)))
                            have GE280 := Aside0.mk (Q9 (hon 8 (by kernel_rfl)))
                            have NB269_280 := Aside0.mk (Q16 (hon 8 (by kernel_rfl)))
                            have NB280_269 := Aside0.mk (Q23 (hon 8 (by kernel_rfl)))
                            have BK278 := Aside0.mk (Q2 (hon 9 (by kernel_rfl)))
                            have BK279 := Aside0.mk (Q4 (hon 10 (by kernel_rfl)))
                            have hs97 : w'.cell? ⟨gb280, 0, none⟩ = some (.int .i64 0) := (blk_cell BK280.out 0).trans rfl
                            have hfs97 := blk_frozen BK280.out 0
                            have hns97_0 := NB269_280.out
                            have hns97_1 := NB278_280.out
                            have hns97_2 := NB279_280.out
                            have hms97_0 := NB280_269.out
                            have hms97_1 := NB280_278.out
                            have hms97_2 := NB280_279.out
                            have hs98 : w'.cell? ⟨gb280, 1, none⟩ = some (.int .i64 0) := (blk_cell BK280.out 1).trans rfl
                            have hfs98 := blk_frozen BK280.out 1
                            have hns98_0 := NB269_280.out
                            have hns98_1 := NB278_280.out
                            have hns98_2 := NB279_280.out
                            have hms98_0 := NB280_269.out
                            have hms98_1 := NB280_278.out
                            have hms98_2 := NB280_279.out
                            refine skip_ (w1 := ?_) (by rfl) rfl ?_ ?_
                            rotate_left
                            · go_simp
                              rfl
                            refine hK.out _ _ ⟨gb278, gb279, gb280, m6_, m7_, m8_, (by rw [ha.out]; exact putSel_none (v := undef) rfl), (by (with_reducible repeat (first | refine blk_drewN ?_ _ | refine blk_drew ?_ | refine blk_alloc ?_ _)); refine blk_far ?_ NB269_280.out _; (with_reducible repeat (first | refine blk_drewN ?_ _ | refine blk_drew ?_ | refine blk_alloc ?_ _)); refine blk_far ?_ NB269_280.out _; (with_reducible repeat (first | refine blk_drewN ?_ _ | refine blk_drew ?_ | refine blk_alloc ?_ _)); exact BK269.out), (by repeat (first | (with_reducible first | exact HB.out | apply below_alloc | apply pw_below_drewN | apply below_drew1 | refine below_set ?_ GE269.out | refine below_set ?_ GE278.out | refine below_set ?_ GE279.out | refine below_set ?_ GE280.out) | exact HB.out)), fun _ _ => NB279_278.out, fun _ _ => NB278_279.out, fun _ _ => NB280_278.out, fun _ _ => NB278_280.out, fun _ _ => NB280_279.out, fun _ _ => NB279_280.out, fun _ h1_ => absurd ((hon 9 (by kernel_rfl)).symm.trans h1_) (by decide), fun _ => GW278.out, fun _ => GE278.out, fun _ => NB269_278.out, fun _ => NB278_269.out, fun _ h1_ => absurd ((hon 10 (by kernel_rfl)).symm.trans h1_) (by decide), fun _ => GW279.out, fun _ => GE279.out, fun _ => NB269_279.out, fun _ => NB279_269.out, fun _ h1_ => absurd ((up_self b 11).symm.trans h1_) (by decide), fun _ => GW280.out, fun _ => GE280.out, fun _ => NB269_280.out, fun _ => NB280_269.out, fun _ => (by (with_reducible repeat (first | refine blk_drewN ?_ _ | refine blk_drew ?_ | refine blk_alloc ?_ _)); refine blk_far ?_ NB278_280.out _; (with_reducible repeat (first | refine blk_drewN ?_ _ | refine blk_drew ?_ | refine blk_alloc ?_ _)); refine blk_far ?_ NB278_280.out _; (with_reducible repeat (first | refine blk_drewN ?_ _ | refine blk_drew ?_ | refine blk_alloc ?_ _)); exact BK278.out), fun _ => (by (with_reducible repeat (first | refine blk_drewN ?_ _ | refine blk_drew ?_ | refine blk_alloc ?_ _)); refine blk_far ?_ NB279_280.out _; (with_reducible repeat (first | refine blk_drewN ?_ _ | refine blk_drew ?_ | refine blk_alloc ?_ _)); refine blk_far ?_ NB279_280.out _; (with_reducible repeat (first | refine blk_drewN ?_ _ | refine blk_drew ?_ | refine blk_alloc ?_ _)); exact BK279.out), fun _ => (by (with_reducible repeat (first | refine blk_drewN ?_ _ | refine blk_drew ?_ | refine blk_alloc ?_ _)); refine blk_put (cs := #[.int .i64 t276, .int .i64 0]) ?_ 1 _ rfl; (with_reducible repeat (first | refine blk_drewN ?_ _ | refine blk_drew ?_ | refine blk_alloc ?_ _)); refine blk_put (cs := #[.int .i64 0, .int .i64 0]) ?_ 0 _ rfl; (with_reducible repeat (first | refine blk_drewN ?_ _ | refine blk_drew ?_ | refine blk_alloc ?_ _)); exact BK280.out), Q26, Q27, Q28⟩
                          exact steps_nil
                        rintro b a w98 hall ⟨gb278, gb279, gb280, m6_, m7_, m8_, ha, Q0, Q13, Q21, Q18, Q24, Q19, Q25, Q22, Q1, Q10, Q7, Q14, Q17, Q3, Q11, Q8, Q15, Q20, Q5, Q12, Q9, Q16, Q23, Q2, Q4, Q6, Q26, Q27, Q28⟩
                        clear BK269 HB
                        have hb0_ := hall 0 (by kernel_rfl)
                        have hb1_ := hall 1 (by kernel_rfl)
                        have hb2_ := hall 2 (by kernel_rfl)
                        have hb3_ := hall 3 (by kernel_rfl)
                        have hb4_ := hall 4 (by kernel_rfl)
                        have hb5_ := hall 5 (by kernel_rfl)
                        have hb6_ := hall 6 (by kernel_rfl)
                        have hb7_ := hall 7 (by kernel_rfl)
                        have hb8_ := hall 8 (by kernel_rfl)
                        have hb9_ := hall 9 (by kernel_rfl)
                        have hb10_ := hall 10 (by kernel_rfl)
                        have hb11_ := hall 11 (by kernel_rfl)
                        subst ha
                        obtain rfl := Q26 hb6_
                        obtain rfl := Q27 hb7_
                        obtain rfl := Q28 hb8_
                        simp only [putSel, hb0_, hb1_, hb2_, hb3_, hb4_, hb5_, hb6_, hb7_, hb8_, hb9_, hb10_, hb11_, if_true, Act.put, List.setIfInBounds_toArray, List.set_cons_zero, List.set_cons_succ]
                        have BK269 := Aside0.mk Q0
                        clear Q0
                        have HB := Aside0.mk Q13
                        clear Q13
                        have NB279_278 := Aside0.mk (Q21 hb6_ hb7_)
                        clear Q21
                        have NB278_279 := Aside0.mk (Q18 hb6_ hb7_)
                        clear Q18
                        have NB280_278 := Aside0.mk (Q24 hb6_ hb8_)
                        clear Q24
                        have NB278_280 := Aside0.mk (Q19 hb6_ hb8_)
                        clear Q19
                        have NB280_279 := Aside0.mk (Q25 hb7_ hb8_)
                        clear Q25
                        have NB279_280 := Aside0.mk (Q22 hb7_ hb8_)
                        clear Q22
                        clear Q1
                        have GW278 := Aside0.mk (Q10 hb6_)
                        clear Q10
                        have GE278 := Aside0.mk (Q7 hb6_)
                        clear Q7
                        have NB269_278 := Aside0.mk (Q14 hb6_)
                        clear Q14
                        have NB278_269 := Aside0.mk (Q17 hb6_)
                        clear Q17
                        clear Q3
                        have GW279 := Aside0.mk (Q11 hb7_)
                        clear Q11
                        have GE279 := Aside0.mk (Q8 hb7_)
                        clear Q8
                        have NB269_279 := Aside0.mk (Q15 hb7_)
                        clear Q15
                        have NB279_269 := Aside0.mk (Q20 hb7_)
                        clear Q20
                        clear Q5
                        have GW280 := Aside0.mk (Q12 hb8_)
                        clear Q12
                        have GE280 := Aside0.mk (Q9 hb8_)
                        clear Q9
                        have NB269_280 := Aside0.mk (Q16 hb8_)
                        clear Q16
                        have NB280_269 := Aside0.mk (Q23 hb8_)
                        clear Q23
                        have BK278 := Aside0.mk (Q2 hb9_)
                        clear Q2
                        have BK279 := Aside0.mk (Q4 hb10_)
                        clear Q4
                        have BK280 := Aside0.mk (Q6 hb11_)
                        clear Q6
                        clear hall hb0_ hb1_ hb2_ hb3_ hb4_ hb5_ hb6_ hb7_ hb8_ hb9_ hb10_ hb11_
                        have hnb99 := NB279_269.out
                        have hnc99 := NB269_279.out
                        have hnb100 := NB279_278.out
                        have hnc100 := NB278_279.out
                        have hnb101 := NB279_280.out
                        have hnc101 := NB280_279.out
                        have hcz102_0 : w98.cell? ⟨gb279, 0, none⟩ = some (.int .i64 t274) := (blk_cell BK279.out 0).trans rfl
                        have hcz102_1 : w98.cell? ⟨gb279, 1, none⟩ = some (.int .i64 t275) := (blk_cell BK279.out 1).trans rfl
                        have hfz102_0 := blk_frozen BK279.out 0
                        have hfz102_1 := blk_frozen BK279.out 1
                        have hnb103 := NB278_269.out
                        have hnc103 := NB269_278.out
                        have hnb104 := NB278_280.out
                        have hnc104 := NB280_278.out
                        have hcz105_0 : w98.cell? ⟨gb278, 0, none⟩ = some (.int .i64 t272) := (blk_cell BK278.out 0).trans rfl
                        have hcz105_1 : w98.cell? ⟨gb278, 1, none⟩ = some (.int .i64 t273) := (blk_cell BK278.out 1).trans rfl
                        have hfz105_0 := blk_frozen BK278.out 0
                        have hfz105_1 := blk_frozen BK278.out 1
                        try go_wp2_with (first | ((with_reducible refine gate_callee (f := 7) rfl ?_); refine goesL_ (some 27) rfl rfl Tryd.func7 (by kernel_rfl) rfl #[] rfl (by (try simp only [List.map_toArray, List.map_cons, List.map_nil]); first | done | rfl | (simp only [List.length_drop, List.length_take]; rfl)) ?_; (with_reducible refine (stencillaw02_live.calls kj1  true _ ?side1 A17.out).mono ?_); (case side1 => first | exact HLD | exact Laid.below HLD (by repeat (first | (with_reducible first | exact HB.out | apply below_alloc | apply pw_below_drewN | apply below_drew1 | refine below_set ?_ GE269.out | refine below_set ?_ GE278.out | refine below_set ?_ GE279.out | refine below_set ?_ GE280.out) | exact HB.out))); rintro e w106 ⟨rfl, hb⟩; refine ⟨_, rfl, ?_⟩; have n0_ := Aside0.mk (blk_below (g := gb269) (o := .cells #[.int .i64 a0_0, .int .i64 a0_1] 24 (0, 0)) (by (with_reducible repeat (first | refine blk_drewN ?_ _ | refine blk_drew ?_ | refine blk_alloc ?_ _)); exact BK269.out) hb); have n1_ := Aside0.mk (blk_below (g := gb278) (o := .cells #[.int .i64 t272, .int .i64 t273] 24 (0, 0)) (by (with_reducible repeat (first | refine blk_drewN ?_ _ | refine blk_drew ?_ | refine blk_alloc ?_ _)); exact BK278.out) hb); have n2_ := Aside0.mk (blk_below (g := gb279) (o := .cells #[.int .i64 t274, .int .i64 t275] 24 (0, 0)) (by (with_reducible repeat (first | refine blk_drewN ?_ _ | refine blk_drew ?_ | refine blk_alloc ?_ _)); exact BK279.out) hb); have n3_ := Aside0.mk (blk_below (g := gb280) (o := .cells #[.int .i64 t276, .int .i64 t277] 24 (0, 0)) (by (with_reducible repeat (first | refine blk_drewN ?_ _ | refine blk_drew ?_ | refine blk_alloc ?_ _)); exact BK280.out) hb); have n4_ := Aside0.mk (below_step (by repeat (first | (with_reducible first | exact HB.out | apply below_alloc | apply pw_below_drewN | apply below_drew1 | refine below_set ?_ GE269.out | refine below_set ?_ GE278.out | refine below_set ?_ GE279.out | refine below_set ?_ GE280.out) | exact HB.out)) hb); clear BK269; clear BK278; clear BK279; clear BK280; clear HB; have BK269 := n0_; have BK278 := n1_; have BK279 := n2_; have BK280 := n3_; have HB := n4_; clear n0_ n1_ n2_ n3_ n4_; (try clear hb); (try clear hb2); (try clear hk); (try clear hi); have hcz107_0 : w106.cell? ⟨gb278, 0, none⟩ = some (.int .i64 t272) := (blk_cell BK278.out 0).trans rfl; have hcz107_1 : w106.cell? ⟨gb278, 1, none⟩ = some (.int .i64 t273) := (blk_cell BK278.out 1).trans rfl; have hfz107_0 := blk_frozen BK278.out 0; have hfz107_1 := blk_frozen BK278.out 1; have hnb108 := NB269_280.out; have hnc108 := NB280_269.out; have hcz109_0 : w106.cell? ⟨gb269, 0, none⟩ = some (.int .i64 a0_0) := (blk_cell BK269.out 0).trans rfl; have hcz109_1 : w106.cell? ⟨gb269, 1, none⟩ = some (.int .i64 a0_1) := (blk_cell BK269.out 1).trans rfl; have hfz109_0 := blk_frozen BK269.out 0; have hfz109_1 := blk_frozen BK269.out 1; have hcz110_0 : w106.cell? ⟨gb279, 0, none⟩ = some (.int .i64 t274) := (blk_cell BK279.out 0).trans rfl; have hcz110_1 : w106.cell? ⟨gb279, 1, none⟩ = some (.int .i64 t275) := (blk_cell BK279.out 1).trans rfl; have hfz110_0 := blk_frozen BK279.out 0; have hfz110_1 := blk_frozen BK279.out 1; have hcz111_0 : w106.cell? ⟨gb280, 0, none⟩ = some (.int .i64 t276) := (blk_cell BK280.out 0).trans rfl; have hcz111_1 : w106.cell? ⟨gb280, 1, none⟩ = some (.int .i64 t277) := (blk_cell BK280.out 1).trans rfl; have hfz111_0 := blk_frozen BK280.out 0; have hfz111_1 := blk_frozen BK280.out 1) | (go_at_call 7; (with_reducible refine (stencillaw02_live.calls kj1  true _ ?side1 A17.out).mono ?_); (case side1 => first | exact HLD | exact Laid.below HLD (by repeat (first | (with_reducible first | exact HB.out | apply below_alloc | apply pw_below_drewN | apply below_drew1 | refine below_set ?_ GE269.out | refine below_set ?_ GE278.out | refine below_set ?_ GE279.out | refine below_set ?_ GE280.out) | exact HB.out))); rintro e w106 ⟨rfl, hb⟩; have n0_ := Aside0.mk (blk_below (g := gb269) (o := .cells #[.int .i64 a0_0, .int .i64 a0_1] 24 (0, 0)) (by (with_reducible repeat (first | refine blk_drewN ?_ _ | refine blk_drew ?_ | refine blk_alloc ?_ _)); exact BK269.out) hb); have n1_ := Aside0.mk (blk_below (g := gb278) (o := .cells #[.int .i64 t272, .int .i64 t273] 24 (0, 0)) (by (with_reducible repeat (first | refine blk_drewN ?_ _ | refine blk_drew ?_ | refine blk_alloc ?_ _)); exact BK278.out) hb); have n2_ := Aside0.mk (blk_below (g := gb279) (o := .cells #[.int .i64 t274, .int .i64 t275] 24 (0, 0)) (by (with_reducible repeat (first | refine blk_drewN ?_ _ | refine blk_drew ?_ | refine blk_alloc ?_ _)); exact BK279.out) hb); have n3_ := Aside0.mk (blk_below (g := gb280) (o := .cells #[.int .i64 t276, .int .i64 t277] 24 (0, 0)) (by (with_reducible repeat (first | refine blk_drewN ?_ _ | refine blk_drew ?_ | refine blk_alloc ?_ _)); exact BK280.out) hb); have n4_ := Aside0.mk (below_step (by repeat (first | (with_reducible first | exact HB.out | apply below_alloc | apply pw_below_drewN | apply below_drew1 | refine below_set ?_ GE269.out | refine below_set ?_ GE278.out | refine below_set ?_ GE279.out | refine below_set ?_ GE280.out) | exact HB.out)) hb); clear BK269; clear BK278; clear BK279; clear BK280; clear HB; have BK269 := n0_; have BK278 := n1_; have BK279 := n2_; have BK280 := n3_; have HB := n4_; clear n0_ n1_ n2_ n3_ n4_; (try clear hb); (try clear hb2); (try clear hk); (try clear hi); have hcz107_0 : w106.cell? ⟨gb278, 0, none⟩ = some (.int .i64 t272) := (blk_cell BK278.out 0).trans rfl; have hcz107_1 : w106.cell? ⟨gb278, 1, none⟩ = some (.int .i64 t273) := (blk_cell BK278.out 1).trans rfl; have hfz107_0 := blk_frozen BK278.out 0; have hfz107_1 := blk_frozen BK278.out 1; have hnb108 := NB269_280.out; have hnc108 := NB280_269.out; have hcz109_0 : w106.cell? ⟨gb269, 0, none⟩ = some (.int .i64 a0_0) := (blk_cell BK269.out 0).trans rfl; have hcz109_1 : w106.cell? ⟨gb269, 1, none⟩ = some (.int .i64 a0_1) := (blk_cell BK269.out 1).trans rfl; have hfz109_0 := blk_frozen BK269.out 0; have hfz109_1 := blk_frozen BK269.out 1; have hcz110_0 : w106.cell? ⟨gb279, 0, none⟩ = some (.int .i64 t274) := (blk_cell BK279.out 0).trans rfl; have hcz110_1 : w106.cell? ⟨gb279, 1, none⟩ = some (.int .i64 t275) := (blk_cell BK279.out 1).trans rfl; have hfz110_0 := blk_frozen BK279.out 0; have hfz110_1 := blk_frozen BK279.out 1; have hcz111_0 : w106.cell? ⟨gb280, 0, none⟩ = some (.int .i64 t276) := (blk_cell BK280.out 0).trans rfl; have hcz111_1 : w106.cell? ⟨gb280, 1, none⟩ = some (.int .i64 t277) := (blk_cell BK280.out 1).trans rfl; have hfz111_0 := blk_frozen BK280.out 0; have hfz111_1 := blk_frozen BK280.out 1))
                        all_goals (go_ret; exact ⟨by first | rfl | (simp [errW_none, errW_some] <;> rfl) | (simp [*, errW_none, errW_some] <;> rfl), by repeat (first | (with_reducible first | exact HB.out | apply below_alloc | apply pw_below_drewN | apply below_drew1 | refine below_set ?_ GE269.out | refine below_set ?_ GE278.out | refine below_set ?_ GE279.out | refine below_set ?_ GE280.out) | exact HB.out)⟩)
                      · rw [if_neg c84] at H
                        exact absurd H (by simp)
                  · rw [if_neg c54] at H
                    exact absurd H (by simp)
              · rw [if_neg c21] at H
                exact absurd H (by simp)
            · rw [if_neg c20] at H
              exact absurd H (by simp)
          · rw [if_neg c19] at H
            exact absurd H (by simp)
        · replace c18 := Bool.eq_false_iff.mpr c18
          subst c18
          have H1 : (none) = some r := by rw [if_neg (show ¬ (false = true) by decide)] at H; exact H
          clear H
          have H := H1
          clear H1
          exact absurd H (by simp)

end Go.Proofs.YtfbmojnndbbojaaDoor.Print

-- APART
