-- Laid by xprint.py (ours), out of the seat's translation; Lean checks it.
import Derived.Test.YtfbmojnndbbojaaGreatDoorPrint0
import Derived.Test.YtfbmojnndbbojaaGreatDoorPrintf18
import Derived.Test.YtfbmojnndbbojaaGreatDoorPrintf26
import Derived.Test.YtfbmojnndbbojaaGreatDoorPrintf80
namespace Go.Proofs.YtfbmojnndbbojaaGreatDoor.Print
open Go.RowKit Go.Proofs.YtfbmojnndbbojaaGreatDoorW.PrintWords Go.Proofs.YtfbmojnndbbojaaGreatDoorW.PrintLast Go.Proofs.YtfbmojnndbbojaaGreatDoorW.PrintMore
attribute [local go_sem] max2_int min2_int max_two min_two max_three min_three max_four min_four   -- for this text's walks alone
open Go.Proofs.YtfbmojnndbbojaaGreatDoor.Plain
set_option linter.unusedVariables false
set_option linter.unusedSimpArgs false

/-! ### stencilref02_Mod: function 30 -/
def stencilref02_Mod.j0 : Nat → Bool → Int → Int → Int → Int → Option (Int × Int)
 | 0, _, _, _, _, _ => none
 | k + 1, x5, x385000, x385001, x386000, x386001 => if x5 = true then ((stencilref02_Nan.f).bind fun bt388 => (some (bt388.1, bt388.2))) else (if x386000 = 0 then ((stencilref02_size.f x385000 x385001).bind fun t390 => ((stencilref02_size.f x386000 x386001).bind fun t391 => (if t391 = 0 then (none) else ((stencilref02_made.f k (Int.tmod t390 t391) (decide (x385001 < 0)) false).bind fun bt392 => (some (bt392.1, bt392.2)))))) else (some (x385000, x385001)))
def stencilref02_Mod.f (k : Nat) (a0_0 : Int) (a0_1 : Int) (a1_0 : Int) (a1_1 : Int) : Option (Int × Int) := if a0_0 = 0 then (if a1_0 = 1 then (stencilref02_Mod.j0 k true a0_0 a0_1 a1_0 a1_1) else ((stencilref02_sign.f k a1_0 a1_1).bind fun t387 => (stencilref02_Mod.j0 k (t387 == 0) a0_0 a0_1 a1_0 a1_1))) else (stencilref02_Mod.j0 k true a0_0 a0_1 a1_0 a1_1)
theorem stencilref02_Mod.mono_l : ∀ k, (∀ y0 y1 y2 y3 y4, LeO (stencilref02_Mod.j0 k y0 y1 y2 y3 y4) (stencilref02_Mod.j0 (k + 1) y0 y1 y2 y3 y4))
 | 0 => fun _ _ _ _ _ r h => by simp [stencilref02_Mod.j0] at h
 | k + 1 => by
  have ih0 := stencilref02_Mod.mono_l k
  ·intro y0 y1 y2 y3 y4
   unfold stencilref02_Mod.j0
   repeat' first
   | (with_reducible exact ih0 _ _ _ _ _)
   | (with_reducible exact stencilref02_made.mono _ _ _ _)
   | (with_reducible exact stencilref02_sign.mono _ _ _)
   | (with_reducible exact LeO.refl _)
   | (with_reducible exact LeO.none _)
   | (with_reducible refine LeO.ite ?_ ?_)
   | (with_reducible refine LeO.bind ?_ (fun _ => ?_))
   | exact ih0 _ _ _ _ _
   | exact stencilref02_made.mono _ _ _ _
   | exact stencilref02_sign.mono _ _ _
   | exact LeO.none _
   | refine LeO.ite ?_ ?_
   | refine LeO.bind ?_ (fun _ => ?_)
theorem stencilref02_Mod.mono : ∀ a0 a1 a2 a3 k, LeO (stencilref02_Mod.f k a0 a1 a2 a3) (stencilref02_Mod.f (k + 1) a0 a1 a2 a3) := by
 intro a0 a1 a2 a3 k
 have ih0 := stencilref02_Mod.mono_l k
 unfold stencilref02_Mod.f
 repeat' first
   | (with_reducible exact ih0 _ _ _ _ _)
   | (with_reducible exact stencilref02_made.mono _ _ _ _)
   | (with_reducible exact stencilref02_sign.mono _ _ _)
   | (with_reducible exact LeO.refl _)
   | (with_reducible exact LeO.none _)
   | (with_reducible refine LeO.ite ?_ ?_)
   | (with_reducible refine LeO.bind ?_ (fun _ => ?_))
   | exact ih0 _ _ _ _ _
   | exact stencilref02_made.mono _ _ _ _
   | exact stencilref02_sign.mono _ _ _
   | exact LeO.none _
   | refine LeO.ite ?_ ?_
   | refine LeO.bind ?_ (fun _ => ?_)
def stencilref02_Mod.T5 : Bool × List (List Nat × List Nat) := (true, [([], []), ([0], [0]), ([], []), ([2, 1], [2]), ([1, 3], [1, 3]), ([], []), ([5], [5]), ([6], [6]), ([4, 7, 3], [4, 7]), ([8, 8, 0, 1, 2, 3, 4, 5, 6, 7, 8], [8])])
def stencilref02_Mod.B5 : List Nat := [0, 1, 0, 7, 15, 0, 32, 96, 255, 511]
theorem stencilref02_Mod.tab5 : rtab .any (opsOf Tryz.f30 5) = stencilref02_Mod.T5 := by kernel_rfl
theorem stencilref02_Mod.bits5 : waitsOk stencilref02_Mod.T5.2 stencilref02_Mod.B5 = true := by kernel_rfl
set_option maxHeartbeats 8000000 in
set_option maxRecDepth 100000 in
theorem stencilref02_Mod.calls (k : Nat) (a0_0 : Int) (a0_1 : Int) (a1_0 : Int) (a1_1 : Int) (r1 : Int) (r2 : Int) (w : World) (HLD : Laid w) (h : stencilref02_Mod.f k a0_0 a0_1 a1_0 a1_1 = some (r1, r2)) :
  Calls Tryz.prog 30 #[.agg #[.int .i64 a0_0, .int .i64 a0_1], .agg #[.int .i64 a1_0, .int .i64 a1_1]] w fun e w' => e = .returned (.agg #[.int .i64 r1, .int .i64 r2]) ∧ Below w.heap.size w w' := by
 have hu24 := Tryz.underlying24
 have HB := Aside0.mk (Below.refl w.heap.size w)
 have H : (if a0_0 = 0 then (if a1_0 = 1 then (stencilref02_Mod.j0 k true a0_0 a0_1 a1_0 a1_1) else ((stencilref02_sign.f k a1_0 a1_1).bind fun t387 => (stencilref02_Mod.j0 k (t387 == 0) a0_0 a0_1 a1_0 a1_1))) else (stencilref02_Mod.j0 k true a0_0 a0_1 a1_0 a1_1)) = some (r1, r2) := h
 clear h
 have HC3 := Aside0.mk H
 clear H
 go_enter Tryz.func30, Tryz.ntmps30
 go_upto_region 1 with (first | ((with_reducible refine gate_dst (N := 2) rfl ?_); refine box_event ?hg (N := 2) ?hd (cs := #[.int .i64 a0_0, .int .i64 a0_1]) (t := 24) ?hr ?_; (case hd => rfl); (case hg => rfl); (case hr => first | (go_simp; done) | (go_simp; rfl)); intro gb384 hg w4 hbox hb; have GW384 := Aside0.mk ((by rw [hg]; exact (below_size HB.out) : w.heap.size ≤ gb384)); have GE384 := Aside0.mk ((by rw [hg]; exact (below_size HB.out) : w.heap.size ≤ gb384)); replace HB := zs HB hb; have BK384 := Aside0.mk (hbox); clear hb hbox hg) | ((with_reducible refine gate_dst (N := 3) rfl ?_); refine box_event ?hg (N := 3) ?hd (cs := #[.int .i64 a1_0, .int .i64 a1_1]) (t := 24) ?hr ?_; (case hd => rfl); (case hg => rfl); (case hr => first | (go_simp; done) | (go_simp; rfl)); intro gb385 hg w5 hbox hb; have GW385 := Aside0.mk ((by rw [hg]; exact (below_size HB.out) : w.heap.size ≤ gb385)); have GE385 := Aside0.mk ((by rw [hg]; exact (below_size HB.out) : w.heap.size ≤ gb385)); have NB384_385 := Aside0.mk ((by rw [hg]; exact Nat.ne_of_lt (blk_lt (g := gb384) (o := .cells #[.int .i64 a0_0, .int .i64 a0_1] 24 (0, 0)) BK384.out) : gb384 ≠ gb385)); have NB385_384 := Aside0.mk ((by rw [hg]; exact Nat.ne_of_gt (blk_lt (g := gb384) (o := .cells #[.int .i64 a0_0, .int .i64 a0_1] 24 (0, 0)) BK384.out) : gb385 ≠ gb384)); replace BK384 := zb BK384 hb; replace HB := zs HB hb; have BK385 := Aside0.mk (hbox); clear hb hbox hg) | ((with_reducible refine gate_dst (N := 4) rfl ?_); refine box_event ?hg (N := 4) ?hd (cs := #[.int .i64 0, .int .i64 0]) (t := 24) ?hr ?_; (case hd => rfl); (case hg => rfl); (case hr => first | (go_simp; done) | (go_simp; rfl)); intro gb386 hg w6 hbox hb; have GW386 := Aside0.mk ((by rw [hg]; exact (below_size HB.out) : w.heap.size ≤ gb386)); have GE386 := Aside0.mk ((by rw [hg]; exact (below_size HB.out) : w.heap.size ≤ gb386)); have NB384_386 := Aside0.mk ((by rw [hg]; exact Nat.ne_of_lt (blk_lt (g := gb384) (o := .cells #[.int .i64 a0_0, .int .i64 a0_1] 24 (0, 0)) BK384.out) : gb384 ≠ gb386)); have NB386_384 := Aside0.mk ((by rw [hg]; exact Nat.ne_of_gt (blk_lt (g := gb384) (o := .cells #[.int .i64 a0_0, .int .i64 a0_1] 24 (0, 0)) BK384.out) : gb386 ≠ gb384)); have NB385_386 := Aside0.mk ((by rw [hg]; exact Nat.ne_of_lt (blk_lt (g := gb385) (o := .cells #[.int .i64 a1_0, .int .i64 a1_1] 24 (0, 0)) BK385.out) : gb385 ≠ gb386)); have NB386_385 := Aside0.mk ((by rw [hg]; exact Nat.ne_of_gt (blk_lt (g := gb385) (o := .cells #[.int .i64 a1_0, .int .i64 a1_1] 24 (0, 0)) BK385.out) : gb386 ≠ gb385)); replace BK384 := zb BK384 hb; replace BK385 := zb BK385 hb; replace HB := zs HB hb; have BK386 := Aside0.mk (hbox); clear hb hbox hg))
 (try simp only [Act.put, List.setIfInBounds_toArray, List.set_cons_zero, List.set_cons_succ])
 go_cut [5] (fun v5 wc => ∃ (kq : Nat) (x5_2 : Bool), v5 = .bool x5_2 ∧ Aside0 (stencilref02_Mod.j0 kq x5_2 a0_0 a0_1 a1_0 a1_1 = some (r1, r2)) ∧ Aside0 (kq ≤ k) ∧ Aside0 (wc.heap[gb384]? = some (.cells #[.int .i64 a0_0, .int .i64 a0_1] 24 (0, 0))) ∧ Aside0 (wc.heap[gb385]? = some (.cells #[.int .i64 a1_0, .int .i64 a1_1] 24 (0, 0))) ∧ Aside0 (wc.heap[gb386]? = some (.cells #[.int .i64 0, .int .i64 0] 24 (0, 0))) ∧ Aside0 (Below w.heap.size w wc))
 case first =>
  have H := HC3.out
  clear HC3
  by_cases c7 : a0_0 = 0
  ·rw [if_pos c7] at H
   have c7b0 : (a0_0 == 0) = true := beq_iff_eq.mpr c7
   have c7b1 : (a0_0 != 0) = false := bne_eq_false_iff_eq.mpr c7
   clear c7
   (first | rw [c7b0] | (simp only [i64_w, i32_w]; rw [c7b0]) | skip)
   by_cases c8 : a1_0 = 1
   ·rw [if_pos c8] at H
    have c8b0 : (a1_0 == 1) = true := beq_iff_eq.mpr c8
    have c8b1 : (a1_0 != 1) = false := bne_eq_false_iff_eq.mpr c8
    clear c8
    have H' := Aside0.mk H
    clear H
    have hnb9 := NB384_385.out
    have hnc9 := NB385_384.out
    have hnb10 := NB384_386.out
    have hnc10 := NB386_384.out
    have hcz11_0 : w6.cell? ⟨gb384, 0, none⟩ = some (.int .i64 a0_0) := (blk_cell BK384.out 0).trans rfl
    have hcz11_1 : w6.cell? ⟨gb384, 1, none⟩ = some (.int .i64 a0_1) := (blk_cell BK384.out 1).trans rfl
    have hfz11_0 := blk_frozen BK384.out 0
    have hfz11_1 := blk_frozen BK384.out 1
    have hnb12 := NB385_386.out
    have hnc12 := NB386_385.out
    have hcz13_0 : w6.cell? ⟨gb385, 0, none⟩ = some (.int .i64 a1_0) := (blk_cell BK385.out 0).trans rfl
    have hcz13_1 : w6.cell? ⟨gb385, 1, none⟩ = some (.int .i64 a1_1) := (blk_cell BK385.out 1).trans rfl
    have hfz13_0 := blk_frozen BK385.out 0
    have hfz13_1 := blk_frozen BK385.out 1
    go_wp2
    go_meet
    case rel => exact ⟨_, (true), (by first | rfl | (simp; done) | (simp [*]; done)), H', ⟨by first | omega | exact Nat.le_refl _⟩, ⟨by (with_reducible repeat (first | refine blk_drewN ?_ _ | refine blk_drew ?_ | refine blk_alloc ?_ _)); exact BK384.out⟩, ⟨by (with_reducible repeat (first | refine blk_drewN ?_ _ | refine blk_drew ?_ | refine blk_alloc ?_ _)); exact BK385.out⟩, ⟨by (with_reducible repeat (first | refine blk_drewN ?_ _ | refine blk_drew ?_ | refine blk_alloc ?_ _)); exact BK386.out⟩, ⟨by repeat (first | (with_reducible first | exact HB.out | apply below_alloc | apply pw_below_drewN | apply below_drew1 | refine below_set ?_ GE384.out | refine below_set ?_ GE385.out | refine below_set ?_ GE386.out) | exact HB.out)⟩⟩
   ·rw [if_neg c8] at H
    have c8b0 : (a1_0 == 1) = false := beq_eq_false_iff_ne.mpr c8
    have c8b1 : (a1_0 != 1) = true := bne_iff_ne.mpr c8
    replace H := Option.bind_eq_some_iff.mp H
    obtain ⟨t387, A140, H⟩ := H
    replace H : (stencilref02_Mod.j0 k (t387 == 0) a0_0 a0_1 a1_0 a1_1) = some (r1, r2) := H
    have A14 := Aside0.mk A140
    clear A140
    have H' := Aside0.mk H
    clear H
    have hnb15 := NB384_385.out
    have hnc15 := NB385_384.out
    have hnb16 := NB384_386.out
    have hnc16 := NB386_384.out
    have hcz17_0 : w6.cell? ⟨gb384, 0, none⟩ = some (.int .i64 a0_0) := (blk_cell BK384.out 0).trans rfl
    have hcz17_1 : w6.cell? ⟨gb384, 1, none⟩ = some (.int .i64 a0_1) := (blk_cell BK384.out 1).trans rfl
    have hfz17_0 := blk_frozen BK384.out 0
    have hfz17_1 := blk_frozen BK384.out 1
    have hnb18 := NB385_386.out
    have hnc18 := NB386_385.out
    have hcz19_0 : w6.cell? ⟨gb385, 0, none⟩ = some (.int .i64 a1_0) := (blk_cell BK385.out 0).trans rfl
    have hcz19_1 : w6.cell? ⟨gb385, 1, none⟩ = some (.int .i64 a1_1) := (blk_cell BK385.out 1).trans rfl
    have hfz19_0 := blk_frozen BK385.out 0
    have hfz19_1 := blk_frozen BK385.out 1
    go_wp2_with (first | (go_at_call 78; (with_reducible refine (stencilref02_sign.calls k a1_0 a1_1 t387 _ ?side1 A14.out).mono ?_); (case side1 => first | exact HLD | exact Laid.below HLD HB.out); rintro e w20 ⟨rfl, hb⟩; replace BK384 := zb BK384 hb; replace BK385 := zb BK385 hb; replace BK386 := zb BK386 hb; replace HB := zs HB hb; (try clear hb); (try clear hb2); (try clear hk); (try clear hi)))
    go_meet
    case rel => exact ⟨_, ((t387 == 0)), (by first | rfl | (simp; done) | (simp [*]; done)), H', ⟨by first | omega | exact Nat.le_refl _⟩, ⟨by (with_reducible repeat (first | refine blk_drewN ?_ _ | refine blk_drew ?_ | refine blk_alloc ?_ _)); exact BK384.out⟩, ⟨by (with_reducible repeat (first | refine blk_drewN ?_ _ | refine blk_drew ?_ | refine blk_alloc ?_ _)); exact BK385.out⟩, ⟨by (with_reducible repeat (first | refine blk_drewN ?_ _ | refine blk_drew ?_ | refine blk_alloc ?_ _)); exact BK386.out⟩, ⟨by repeat (first | (with_reducible first | exact HB.out | apply below_alloc | apply pw_below_drewN | apply below_drew1 | refine below_set ?_ GE384.out | refine below_set ?_ GE385.out | refine below_set ?_ GE386.out) | exact HB.out)⟩⟩
  ·rw [if_neg c7] at H
   have c7b0 : (a0_0 == 0) = false := beq_eq_false_iff_ne.mpr c7
   have c7b1 : (a0_0 != 0) = true := bne_iff_ne.mpr c7
   (first | rw [c7b0] | (simp only [i64_w, i32_w]; rw [c7b0]) | skip)
   have H' := Aside0.mk H
   clear H
   have hnb21 := NB384_385.out
   have hnc21 := NB385_384.out
   have hnb22 := NB384_386.out
   have hnc22 := NB386_384.out
   have hcz23_0 : w6.cell? ⟨gb384, 0, none⟩ = some (.int .i64 a0_0) := (blk_cell BK384.out 0).trans rfl
   have hcz23_1 : w6.cell? ⟨gb384, 1, none⟩ = some (.int .i64 a0_1) := (blk_cell BK384.out 1).trans rfl
   have hfz23_0 := blk_frozen BK384.out 0
   have hfz23_1 := blk_frozen BK384.out 1
   go_wp2
   go_meet
   case rel => exact ⟨_, (true), (by first | rfl | (simp; done) | (simp [*]; done)), H', ⟨by first | omega | exact Nat.le_refl _⟩, ⟨by (with_reducible repeat (first | refine blk_drewN ?_ _ | refine blk_drew ?_ | refine blk_alloc ?_ _)); exact BK384.out⟩, ⟨by (with_reducible repeat (first | refine blk_drewN ?_ _ | refine blk_drew ?_ | refine blk_alloc ?_ _)); exact BK385.out⟩, ⟨by (with_reducible repeat (first | refine blk_drewN ?_ _ | refine blk_drew ?_ | refine blk_alloc ?_ _)); exact BK386.out⟩, ⟨by repeat (first | (with_reducible first | exact HB.out | apply below_alloc | apply pw_below_drewN | apply below_drew1 | refine below_set ?_ GE384.out | refine below_set ?_ GE385.out | refine below_set ?_ GE386.out) | exact HB.out)⟩⟩
 case rest =>
  clear HC3
  try clear c1; try clear c2; try clear p2; try clear c3; try clear c7; try clear c7b0; try clear c7b1; try clear c8; try clear c8b0; try clear c8b1; try clear c9; try clear c10; try clear c12; try clear c15; try clear c16; try clear c18; try clear c21; try clear c22; try clear hcz11_0; try clear hcz11_1; try clear hcz13_0; try clear hcz13_1; try clear hcz17_0; try clear hcz17_1; try clear hcz19_0; try clear hcz19_1; try clear hcz23_0; try clear hcz23_1; try clear hfz11_0; try clear hfz11_1; try clear hfz13_0; try clear hfz13_1; try clear hfz17_0; try clear hfz17_1; try clear hfz19_0; try clear hfz19_1; try clear hfz23_0; try clear hfz23_1
  obtain ⟨kq, x5_2, rfl, HA, HJ2, BK384, BK385, BK386, HB⟩ := hcut
  cases kq with
  | zero => exact absurd HA.out (by simp [stencilref02_Mod.j0])
  | succ kj2 =>
   have H := HA.out
   clear HA
   simp only [stencilref02_Mod.j0] at H
   by_cases c24 : x5_2 = true
   ·subst c24
    have H1 : ((stencilref02_Nan.f).bind fun bt388 => (some (bt388.1, bt388.2))) = some (r1, r2) := by rw [if_pos rfl] at H; exact H
    clear H
    have H := H1
    clear H1
    replace H := Option.bind_eq_some_iff.mp H
    obtain ⟨⟨t388, t389⟩, A250, H⟩ := H
    replace H : (some (t388, t389)) = some (r1, r2) := H
    have A25 := Aside0.mk A250
    clear A250
    simp only [Option.some.injEq, Prod.mk.injEq] at H
    obtain ⟨rfl, rfl⟩ := H
    go_wp2_with (first | ((with_reducible refine gate_callee (f := 76) rfl ?_); refine goesL_ (some 19) rfl rfl Tryz.func76 (by kernel_rfl) rfl #[] rfl (by (try simp only [List.map_toArray, List.map_cons, List.map_nil]); first | done | rfl | (simp only [List.length_drop, List.length_take]; rfl)) ?_; (with_reducible refine (stencilref02_Nan.calls  t388 t389 _ ?side1 A25.out).mono ?_); (case side1 => first | exact HLD | exact Laid.below HLD HB.out); rintro e w26 ⟨rfl, hb⟩; refine ⟨_, rfl, ?_⟩; replace BK384 := zb BK384 hb; replace BK385 := zb BK385 hb; replace BK386 := zb BK386 hb; replace HB := zs HB hb; (try clear hb); (try clear hb2); (try clear hk); (try clear hi); have hnb27 := NB386_384.out; have hnc27 := NB384_386.out; have hnb28 := NB386_385.out; have hnc28 := NB385_386.out; have hcz29_0 : w26.cell? ⟨gb386, 0, none⟩ = some (.int .i64 0) := (blk_cell BK386.out 0).trans rfl; have hcz29_1 : w26.cell? ⟨gb386, 1, none⟩ = some (.int .i64 0) := (blk_cell BK386.out 1).trans rfl; have hfz29_0 := blk_frozen BK386.out 0; have hfz29_1 := blk_frozen BK386.out 1))
    refine bodyPost_ret (results_cell_row rfl _ _ gb386 24 #[.int .i64 t388, .int .i64 t389] (0, 0) _ rfl (by (with_reducible repeat (first | refine blk_drewN ?_ _ | refine blk_drew ?_ | refine blk_alloc ?_ _)); refine blk_put (cs := #[.int .i64 t388, .int .i64 0]) ?_ 1 _ rfl; (with_reducible repeat (first | refine blk_drewN ?_ _ | refine blk_drew ?_ | refine blk_alloc ?_ _)); refine blk_put (cs := #[.int .i64 0, .int .i64 0]) ?_ 0 _ rfl; (with_reducible repeat (first | refine blk_drewN ?_ _ | refine blk_drew ?_ | refine blk_alloc ?_ _)); exact BK386.out) Tryz.underlying24 rfl (by kernel_rfl)) rfl ?_
    exact ⟨rfl, by repeat (first | (with_reducible first | exact HB.out | apply below_alloc | apply pw_below_drewN | apply below_drew1 | refine below_set ?_ GE384.out | refine below_set ?_ GE385.out | refine below_set ?_ GE386.out) | exact HB.out)⟩
   ·replace c24 := Bool.eq_false_iff.mpr c24
    subst c24
    have H1 : (if a1_0 = 0 then ((stencilref02_size.f a0_0 a0_1).bind fun t390 => ((stencilref02_size.f a1_0 a1_1).bind fun t391 => (if t391 = 0 then (none) else ((stencilref02_made.f kj2 (Int.tmod t390 t391) (decide (a0_1 < 0)) false).bind fun bt392 => (some (bt392.1, bt392.2)))))) else (some (a0_0, a0_1))) = some (r1, r2) := by rw [if_neg (show ¬ (false = true) by decide)] at H; exact H
    clear H
    have H := H1
    clear H1
    by_cases c30 : a1_0 = 0
    ·rw [if_pos c30] at H
     have c30b0 : (a1_0 == 0) = true := beq_iff_eq.mpr c30
     have c30b1 : (a1_0 != 0) = false := bne_eq_false_iff_eq.mpr c30
     clear c30
     replace H := Option.bind_eq_some_iff.mp H
     obtain ⟨t390, A310, H⟩ := H
     replace H : ((stencilref02_size.f a1_0 a1_1).bind fun t391 => (if t391 = 0 then (none) else ((stencilref02_made.f kj2 (Int.tmod t390 t391) (decide (a0_1 < 0)) false).bind fun bt392 => (some (bt392.1, bt392.2))))) = some (r1, r2) := H
     have A31 := Aside0.mk A310
     clear A310
     replace H := Option.bind_eq_some_iff.mp H
     obtain ⟨t391, A320, H⟩ := H
     replace H : (if t391 = 0 then (none) else ((stencilref02_made.f kj2 (Int.tmod t390 t391) (decide (a0_1 < 0)) false).bind fun bt392 => (some (bt392.1, bt392.2)))) = some (r1, r2) := H
     have A32 := Aside0.mk A320
     clear A320
     by_cases c33 : t391 = 0
     ·rw [if_pos c33] at H
      exact absurd H (by simp)
     ·rw [if_neg c33] at H
      have c33b0 : (t391 == 0) = false := beq_eq_false_iff_ne.mpr c33
      have c33b1 : (t391 != 0) = true := bne_iff_ne.mpr c33
      replace H := Option.bind_eq_some_iff.mp H
      obtain ⟨⟨t392, t393⟩, A340, H⟩ := H
      replace H : (some (t392, t393)) = some (r1, r2) := H
      have A34 := Aside0.mk A340
      clear A340
      simp only [Option.some.injEq, Prod.mk.injEq] at H
      obtain ⟨rfl, rfl⟩ := H
      have hnb35 := NB385_384.out
      have hnc35 := NB384_385.out
      have hnb36 := NB385_386.out
      have hnc36 := NB386_385.out
      have hcz37_0 : wc.cell? ⟨gb385, 0, none⟩ = some (.int .i64 a1_0) := (blk_cell BK385.out 0).trans rfl
      have hcz37_1 : wc.cell? ⟨gb385, 1, none⟩ = some (.int .i64 a1_1) := (blk_cell BK385.out 1).trans rfl
      have hfz37_0 := blk_frozen BK385.out 0
      have hfz37_1 := blk_frozen BK385.out 1
      try go_wp2
      replace BK384 := Aside0.mk (blk_drew BK384.out)
      replace BK385 := Aside0.mk (blk_drew BK385.out)
      replace BK386 := Aside0.mk (blk_drew BK386.out)
      replace HB := Aside0.mk (below_drew1 HB.out)
      refine start_ (n := 10) (S := fun w' => w'.cell? ⟨gb384, 0, none⟩ = some (.int .i64 a0_0) ∧ w'.cell? ⟨gb384, 1, none⟩ = some (.int .i64 a0_1) ∧ w'.cell? ⟨gb385, 0, none⟩ = some (.int .i64 a1_0) ∧ w'.cell? ⟨gb385, 1, none⟩ = some (.int .i64 a1_1)) (ds := []) #[false, false, false, false, false, false, false, false, false, false] (by kernel_rfl) rfl rfl ⟨(blk_cell BK384.out 0).trans rfl, (blk_cell BK384.out 1).trans rfl, (blk_cell BK385.out 0).trans rfl, (blk_cell BK385.out 1).trans rfl⟩ (fun hHeld => ?_); refine with_tabW stencilref02_Mod.tab5 stencilref02_Mod.bits5 (fun HT_ HW_ => ?_)
      generalize wc.drew = w38 at BK384 BK385 BK386 HB hHeld ⊢
      refine pure_ (i := 5) (N := some 30) (v := ?_) (a' := ?_) #[false, false, false, false, false, true, false, false, false, false] rfl rfl (any_of HT_.out (by kernel_rfl)) (fun _ _ _ h => h) (Or.inl ⟨by rfl, ?_⟩) ?_ ?_
      rotate_left
      ·intro w'
       go_simp
       with_reducible rfl
      rotate_left
      ·simp only [Act.put, List.setIfInBounds_toArray, List.set_cons_zero, List.set_cons_succ, i64_w, i32_w]
       rfl
      refine take_ (i := 0) (N := some 25) (v := ?_) (a' := ?_) #[true, false, false, false, false, true, false, false, false, false] rfl rfl (take_ofW HT_.out HW_.out (by kernel_rfl)) (fun _ _ _ h => h) (Or.inl ⟨by rfl, ?_⟩) hHeld ?_ ?_
      rotate_left
      ·rintro w' ⟨s0, s1, s2, s3⟩
       go_simp
       with_reducible rfl
      rotate_left
      ·simp only [Act.put, List.setIfInBounds_toArray, List.set_cons_zero, List.set_cons_succ, i64_w, i32_w]
       rfl
      refine take_ (i := 2) (N := some 27) (v := ?_) (a' := ?_) #[true, false, true, false, false, true, false, false, false, false] rfl rfl (take_ofW HT_.out HW_.out (by kernel_rfl)) (fun _ _ _ h => h) (Or.inl ⟨by rfl, ?_⟩) hHeld ?_ ?_
      rotate_left
      ·rintro w' ⟨s0, s1, s2, s3⟩
       go_simp
       with_reducible rfl
      rotate_left
      ·simp only [Act.put, List.setIfInBounds_toArray, List.set_cons_zero, List.set_cons_succ, i64_w, i32_w]
       rfl
      refine take_ (i := 6) (N := some 31) (v := ?_) (a' := ?_) #[true, false, true, false, false, true, true, false, false, false] rfl rfl (take_ofW HT_.out HW_.out (by kernel_rfl)) (fun _ _ _ h => h) (Or.inl ⟨by rfl, ?_⟩) hHeld ?_ ?_
      rotate_left
      ·rintro w' ⟨s0, s1, s2, s3⟩
       go_simp
       with_reducible rfl
      rotate_left
      ·simp only [Act.put, List.setIfInBounds_toArray, List.set_cons_zero, List.set_cons_succ, i64_w, i32_w]
       rfl
      refine pure_ (i := 7) (N := some 32) (v := ?_) (a' := ?_) #[true, false, true, false, false, true, true, true, false, false] rfl rfl (any_of HT_.out (by kernel_rfl)) (fun _ _ _ h => h) (Or.inl ⟨by rfl, ?_⟩) ?_ ?_
      rotate_left
      ·intro w'
       go_simp
       with_reducible rfl
      rotate_left
      ·simp only [Act.put, List.setIfInBounds_toArray, List.set_cons_zero, List.set_cons_succ, i64_w, i32_w]
       rfl
      refine one_ (i := 1) (N := some 26) #[true, true, true, false, false, true, true, true, false, false] rfl rfl (one_of HT_.out (by kernel_rfl)) (by decide) (fun K hK => ?_)
      refine goes_ Tryz.func81 (by kernel_rfl) rfl #[.agg #[.int .i64 a0_0, .int .i64 a0_1]] (by rfl) rfl rfl (by (try simp only [List.map_toArray, List.map_cons, List.map_nil]); first | done | rfl | (simp only [List.length_drop, List.length_take]; rfl)) ?_
      with_reducible refine (stencilref02_size.calls a0_0 a0_1 t390 _ ?side1 A31.out).mono ?_
      (case side1 => first | exact HLD | exact Laid.below HLD HB.out)
      rintro e w39 ⟨rfl, hb⟩
      refine ⟨_, rfl, ?_⟩
      replace BK384 := zb BK384 hb
      replace BK385 := zb BK385 hb
      replace BK386 := zb BK386 hb
      replace HB := zs HB hb
      (try clear hb)
      (try clear hb2)
      (try clear hk)
      (try clear hi)
      refine hK.out _ _ ⟨(blk_cell BK384.out 0).trans rfl, (blk_cell BK384.out 1).trans rfl, (blk_cell BK385.out 0).trans rfl, (blk_cell BK385.out 1).trans rfl⟩ (fun hHeld => ?_)
      clear hK K
      refine norm_ (a' := ?_) ?_ ?_
      rotate_left
      ·show Act.put _ (some 26) _ = _
       simp only [Act.put, List.setIfInBounds_toArray, List.set_cons_zero, List.set_cons_succ, i64_w, i32_w]
       rfl
      refine one_ (i := 3) (N := some 28) #[true, true, true, true, false, true, true, true, false, false] rfl rfl (one_of HT_.out (by kernel_rfl)) (by decide) (fun K hK => ?_)
      refine goes_ Tryz.func81 (by kernel_rfl) rfl #[.agg #[.int .i64 a1_0, .int .i64 a1_1]] (by rfl) rfl rfl (by (try simp only [List.map_toArray, List.map_cons, List.map_nil]); first | done | rfl | (simp only [List.length_drop, List.length_take]; rfl)) ?_
      with_reducible refine (stencilref02_size.calls a1_0 a1_1 t391 _ ?side1 A32.out).mono ?_
      (case side1 => first | exact HLD | exact Laid.below HLD HB.out)
      rintro e w40 ⟨rfl, hb⟩
      refine ⟨_, rfl, ?_⟩
      replace BK384 := zb BK384 hb
      replace BK385 := zb BK385 hb
      replace BK386 := zb BK386 hb
      replace HB := zs HB hb
      (try clear hb)
      (try clear hb2)
      (try clear hk)
      (try clear hi)
      refine hK.out _ _ ⟨(blk_cell BK384.out 0).trans rfl, (blk_cell BK384.out 1).trans rfl, (blk_cell BK385.out 0).trans rfl, (blk_cell BK385.out 1).trans rfl⟩ (fun hHeld => ?_)
      clear hK K
      refine norm_ (a' := ?_) ?_ ?_
      rotate_left
      ·show Act.put _ (some 28) _ = _
       simp only [Act.put, List.setIfInBounds_toArray, List.set_cons_zero, List.set_cons_succ, i64_w, i32_w]
       rfl
      refine pure_ (i := 4) (N := some 29) (v := ?_) (a' := ?_) #[true, true, true, true, true, true, true, true, false, false] rfl rfl (any_of HT_.out (by kernel_rfl)) (fun _ _ _ h => h) (Or.inl ⟨by rfl, ?_⟩) ?_ ?_
      rotate_left
      ·intro w'
       go_simp
       with_reducible rfl
      rotate_left
      ·simp only [Act.put, List.setIfInBounds_toArray, List.set_cons_zero, List.set_cons_succ, i64_w, i32_w]
       rfl
      refine one_ (i := 8) (N := some 33) #[true, true, true, true, true, true, true, true, true, false] rfl rfl (one_of HT_.out (by kernel_rfl)) (by decide) (fun K hK => ?_)
      refine goes_ Tryz.func77 (by kernel_rfl) rfl #[.int .u64 (Int.tmod t390 t391), .bool (decide (a0_1 < 0)), .bool false] (by rfl) rfl rfl (by (try simp only [List.map_toArray, List.map_cons, List.map_nil]); first | done | rfl | (simp only [List.length_drop, List.length_take]; rfl)) ?_
      with_reducible refine (stencilref02_made.calls kj2 (Int.tmod t390 t391) (decide (a0_1 < 0)) false t392 t393 _ ?side1 A34.out).mono ?_
      (case side1 => first | exact HLD | exact Laid.below HLD HB.out)
      rintro e w41 ⟨rfl, hb⟩
      refine ⟨_, rfl, ?_⟩
      replace BK384 := zb BK384 hb
      replace BK385 := zb BK385 hb
      replace BK386 := zb BK386 hb
      replace HB := zs HB hb
      (try clear hb)
      (try clear hb2)
      (try clear hk)
      (try clear hi)
      refine hK.out _ _ ⟨(blk_cell BK384.out 0).trans rfl, (blk_cell BK384.out 1).trans rfl, (blk_cell BK385.out 0).trans rfl, (blk_cell BK385.out 1).trans rfl⟩ (fun hHeld => ?_)
      clear hK K
      refine norm_ (a' := ?_) ?_ ?_
      rotate_left
      ·show Act.put _ (some 33) _ = _
       simp only [Act.put, List.setIfInBounds_toArray, List.set_cons_zero, List.set_cons_succ, i64_w, i32_w]
       rfl
      refine one_ (i := 9) (N := none) #[true, true, true, true, true, true, true, true, true, true] rfl rfl (one_of HT_.out (by kernel_rfl)) (by decide) (fun K hK => ?_)
      have hs42 : w41.cell? ⟨gb386, 0, none⟩ = some (.int .i64 0) := (blk_cell BK386.out 0).trans rfl
      have hfs42 := blk_frozen BK386.out 0
      have hns42_0 := NB384_386.out
      have hns42_1 := NB385_386.out
      have hms42_0 := NB386_384.out
      have hms42_1 := NB386_385.out
      have hs43 : w41.cell? ⟨gb386, 1, none⟩ = some (.int .i64 0) := (blk_cell BK386.out 1).trans rfl
      have hfs43 := blk_frozen BK386.out 1
      have hns43_0 := NB384_386.out
      have hns43_1 := NB385_386.out
      have hms43_0 := NB386_384.out
      have hms43_1 := NB386_385.out
      refine skip_ (w1 := ?_) (by rfl) rfl ?_ ?_
      rotate_left
      ·go_simp
       rfl
      refine hK.out _ _ ⟨((cell_far (p := ⟨gb386, _, none⟩) NB384_386.out _).trans (((cell_far (p := ⟨gb386, _, none⟩) NB384_386.out _).trans (hHeld.1)))), ((cell_far (p := ⟨gb386, _, none⟩) NB384_386.out _).trans (((cell_far (p := ⟨gb386, _, none⟩) NB384_386.out _).trans (hHeld.2.1)))), ((cell_far (p := ⟨gb386, _, none⟩) NB385_386.out _).trans (((cell_far (p := ⟨gb386, _, none⟩) NB385_386.out _).trans (hHeld.2.2.1)))), ((cell_far (p := ⟨gb386, _, none⟩) NB385_386.out _).trans (((cell_far (p := ⟨gb386, _, none⟩) NB385_386.out _).trans (hHeld.2.2.2))))⟩ (fun hHeld => ?_)
      clear hK K
      refine done_ (done_of HT_.out (by kernel_rfl)) ?_
      try go_wp2
      refine bodyPost_ret (results_cell_row rfl _ _ gb386 24 #[.int .i64 t392, .int .i64 t393] (0, 0) _ rfl (by (with_reducible repeat (first | refine blk_drewN ?_ _ | refine blk_drew ?_ | refine blk_alloc ?_ _)); refine blk_put (cs := #[.int .i64 t392, .int .i64 0]) ?_ 1 _ rfl; (with_reducible repeat (first | refine blk_drewN ?_ _ | refine blk_drew ?_ | refine blk_alloc ?_ _)); refine blk_put (cs := #[.int .i64 0, .int .i64 0]) ?_ 0 _ rfl; (with_reducible repeat (first | refine blk_drewN ?_ _ | refine blk_drew ?_ | refine blk_alloc ?_ _)); exact BK386.out) Tryz.underlying24 rfl (by kernel_rfl)) rfl ?_
      exact ⟨rfl, by repeat (first | (with_reducible first | exact HB.out | apply below_alloc | apply pw_below_drewN | apply below_drew1 | refine below_set ?_ GE384.out | refine below_set ?_ GE385.out | refine below_set ?_ GE386.out) | exact HB.out)⟩
    ·rw [if_neg c30] at H
     have c30b0 : (a1_0 == 0) = false := beq_eq_false_iff_ne.mpr c30
     have c30b1 : (a1_0 != 0) = true := bne_iff_ne.mpr c30
     simp only [Option.some.injEq, Prod.mk.injEq] at H
     obtain ⟨rfl, rfl⟩ := H
     have hnb44 := NB385_384.out
     have hnc44 := NB384_385.out
     have hnb45 := NB385_386.out
     have hnc45 := NB386_385.out
     have hcz46_0 : wc.cell? ⟨gb385, 0, none⟩ = some (.int .i64 a1_0) := (blk_cell BK385.out 0).trans rfl
     have hcz46_1 : wc.cell? ⟨gb385, 1, none⟩ = some (.int .i64 a1_1) := (blk_cell BK385.out 1).trans rfl
     have hfz46_0 := blk_frozen BK385.out 0
     have hfz46_1 := blk_frozen BK385.out 1
     have hnb47 := NB384_386.out
     have hnc47 := NB386_384.out
     have hcz48_0 : wc.cell? ⟨gb384, 0, none⟩ = some (.int .i64 a0_0) := (blk_cell BK384.out 0).trans rfl
     have hcz48_1 : wc.cell? ⟨gb384, 1, none⟩ = some (.int .i64 a0_1) := (blk_cell BK384.out 1).trans rfl
     have hfz48_0 := blk_frozen BK384.out 0
     have hfz48_1 := blk_frozen BK384.out 1
     have hcz49_0 : wc.cell? ⟨gb386, 0, none⟩ = some (.int .i64 0) := (blk_cell BK386.out 0).trans rfl
     have hcz49_1 : wc.cell? ⟨gb386, 1, none⟩ = some (.int .i64 0) := (blk_cell BK386.out 1).trans rfl
     have hfz49_0 := blk_frozen BK386.out 0
     have hfz49_1 := blk_frozen BK386.out 1
     go_wp2
     refine bodyPost_ret (results_cell_row rfl _ _ gb386 24 #[.int .i64 a0_0, .int .i64 a0_1] (0, 0) _ rfl (by (with_reducible repeat (first | refine blk_drewN ?_ _ | refine blk_drew ?_ | refine blk_alloc ?_ _)); refine blk_put (cs := #[.int .i64 a0_0, .int .i64 0]) ?_ 1 _ rfl; (with_reducible repeat (first | refine blk_drewN ?_ _ | refine blk_drew ?_ | refine blk_alloc ?_ _)); refine blk_put (cs := #[.int .i64 0, .int .i64 0]) ?_ 0 _ rfl; (with_reducible repeat (first | refine blk_drewN ?_ _ | refine blk_drew ?_ | refine blk_alloc ?_ _)); exact BK386.out) Tryz.underlying24 rfl (by kernel_rfl)) rfl ?_
     exact ⟨rfl, by repeat (first | (with_reducible first | exact HB.out | apply below_alloc | apply pw_below_drewN | apply below_drew1 | refine below_set ?_ GE384.out | refine below_set ?_ GE385.out | refine below_set ?_ GE386.out) | exact HB.out)⟩

end Go.Proofs.YtfbmojnndbbojaaGreatDoor.Print

-- THIN
