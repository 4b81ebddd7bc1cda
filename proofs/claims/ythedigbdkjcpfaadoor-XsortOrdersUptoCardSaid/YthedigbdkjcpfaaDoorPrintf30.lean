-- Laid by xprint.py (ours), out of the seat's translation; Lean checks it.
import Derived.Test.YthedigbdkjcpfaaDoorPrint0
import Derived.Test.YthedigbdkjcpfaaDoorPrintf49
namespace Go.Proofs.YthedigbdkjcpfaaDoor.Print
open Go.RowKit Go.Proofs.YthedigbdkjcpfaaDoorW.PrintWords Go.Proofs.YthedigbdkjcpfaaDoorW.PrintLast Go.Proofs.YthedigbdkjcpfaaDoorW.PrintMore
attribute [local go_sem] max2_int min2_int max_two min_two max_three min_three max_four min_four   -- for this text's walks alone
open Go.Proofs.YthedigbdkjcpfaaDoor.Plain
set_option linter.unusedVariables false
set_option linter.unusedSimpArgs false

/-! ### stencilref13_ahead: function 30 -/
mutual
def stencilref13_ahead.l0 : Nat → List (S55) → List (S55) → List (S55) → Int → Option (Bool)
  | 0, _, _, _, _ => none
  | k + 1, x0, x1, x2, x7 => if x7 < (x0.length : Int) then ((stencilref13_key.f x1 x7).bind fun bt173 => ((stencilref13_key.f x2 x7).bind fun bt178 => (if 0 ≤ x7 then (if (rd_T55 x0 x7).f1 = true then (stencilref13_ahead.j1 k x0 x1 x2 x7 bt178.1 bt178.2.1 bt178.2.2.1 bt178.2.2.2.1 bt178.2.2.2.2 bt173.1 bt173.2.1 bt173.2.2.1 bt173.2.2.2.1 bt173.2.2.2.2) else (stencilref13_ahead.j1 k x0 x1 x2 x7 bt173.1 bt173.2.1 bt173.2.2.1 bt173.2.2.2.1 bt173.2.2.2.2 bt178.1 bt178.2.1 bt178.2.2.1 bt178.2.2.2.1 bt178.2.2.2.2)) else (none)))) else (some false)
def stencilref13_ahead.j1 : Nat → List (S55) → List (S55) → List (S55) → Int → Bool → Bool → ByteArray → Int → Int → Bool → Bool → ByteArray → Int → Int → Option (Bool)
  | 0, _, _, _, _, _, _, _, _, _, _, _, _, _, _ => none
  | k + 1, x0, x1, x2, x7, x184000, x184001, x184002, x184003, x184004, x185000, x185001, x185002, x185003, x185004 => if 0 ≤ x7 then (if x7 < (x0.length : Int) then (if (rd_T55 x0 x7).f0 = true then ((stencilref02_Less.f x184003 x184004 x185003 x185004).bind fun t187 => (if t187 = true then (some true) else ((stencilref02_Less.f x185003 x185004 x184003 x184004).bind fun t188 => (if t188 = true then (some false) else (stencilref13_ahead.l0 k x0 x1 x2 (wrap64 (x7 + 1))))))) else (if x184002.toList = x185002.toList then (stencilref13_ahead.l0 k x0 x1 x2 (wrap64 (x7 + 1))) else (some (Op.bytesLess x184002.toList x185002.toList)))) else (none)) else (none)
end
def stencilref13_ahead.f (k : Nat) (l0 : List (S55)) (l1 : List (S55)) (l2 : List (S55)) : Option (Bool) := stencilref13_ahead.l0 k l0 l1 l2 0
theorem stencilref13_ahead.mono_l : ∀ k, (∀ y0 y1 y2 y3, LeO (stencilref13_ahead.l0 k y0 y1 y2 y3) (stencilref13_ahead.l0 (k + 1) y0 y1 y2 y3)) ∧ (∀ y0 y1 y2 y3 y4 y5 y6 y7 y8 y9 y10 y11 y12 y13, LeO (stencilref13_ahead.j1 k y0 y1 y2 y3 y4 y5 y6 y7 y8 y9 y10 y11 y12 y13) (stencilref13_ahead.j1 (k + 1) y0 y1 y2 y3 y4 y5 y6 y7 y8 y9 y10 y11 y12 y13))
  | 0 => ⟨fun _ _ _ _ r h => by simp [stencilref13_ahead.l0] at h, fun _ _ _ _ _ _ _ _ _ _ _ _ _ _ r h => by simp [stencilref13_ahead.j1] at h⟩
  | k + 1 => by
    obtain ⟨ih0, ih1⟩ := stencilref13_ahead.mono_l k
    refine ⟨?_, ?_⟩
    · intro y0 y1 y2 y3
      unfold stencilref13_ahead.l0
      repeat' first
      | (with_reducible exact ih0 _ _ _ _)
      | (with_reducible exact ih1 _ _ _ _ _ _ _ _ _ _ _ _ _ _)
      | (with_reducible exact LeO.refl _)
      | (with_reducible exact LeO.none _)
      | (with_reducible refine LeO.ite ?_ ?_)
      | (with_reducible refine LeO.bind ?_ (fun _ => ?_))
      | exact ih0 _ _ _ _
      | exact ih1 _ _ _ _ _ _ _ _ _ _ _ _ _ _
      | exact LeO.none _
      | refine LeO.ite ?_ ?_
      | refine LeO.bind ?_ (fun _ => ?_)
    · intro y0 y1 y2 y3 y4 y5 y6 y7 y8 y9 y10 y11 y12 y13
      unfold stencilref13_ahead.j1
      repeat' first
      | (with_reducible exact ih0 _ _ _ _)
      | (with_reducible exact ih1 _ _ _ _ _ _ _ _ _ _ _ _ _ _)
      | (with_reducible exact LeO.refl _)
      | (with_reducible exact LeO.none _)
      | (with_reducible refine LeO.ite ?_ ?_)
      | (with_reducible refine LeO.bind ?_ (fun _ => ?_))
      | exact ih0 _ _ _ _
      | exact ih1 _ _ _ _ _ _ _ _ _ _ _ _ _ _
      | exact LeO.none _
      | refine LeO.ite ?_ ?_
      | refine LeO.bind ?_ (fun _ => ?_)
theorem stencilref13_ahead.mono : ∀ a0 a1 a2 k, LeO (stencilref13_ahead.f k a0 a1 a2) (stencilref13_ahead.f (k + 1) a0 a1 a2) := by
  intro a0 a1 a2 k
  obtain ⟨ih0, ih1⟩ := stencilref13_ahead.mono_l k
  unfold stencilref13_ahead.f
  repeat' first
      | (with_reducible exact ih0 _ _ _ _)
      | (with_reducible exact ih1 _ _ _ _ _ _ _ _ _ _ _ _ _ _)
      | (with_reducible exact LeO.refl _)
      | (with_reducible exact LeO.none _)
      | (with_reducible refine LeO.ite ?_ ?_)
      | (with_reducible refine LeO.bind ?_ (fun _ => ?_))
      | exact ih0 _ _ _ _
      | exact ih1 _ _ _ _ _ _ _ _ _ _ _ _ _ _
      | exact LeO.none _
      | refine LeO.ite ?_ ?_
      | refine LeO.bind ?_ (fun _ => ?_)
set_option maxHeartbeats 8000000 in
set_option maxRecDepth 100000 in
theorem stencilref13_ahead.calls (k : Nat) (A0 : Option Addr) (c0 : Nat) (l0 : List (S55)) (A1 : Option Addr) (c1 : Nat) (l1 : List (S55)) (A2 : Option Addr) (c2 : Nat) (l2 : List (S55)) (r : Bool) (w : World) (hr0 : Kd.C k55 w A0 l0.length l0) (hc0 : l0.length ≤ c0) (hr1 : Kd.C k55 w A1 l1.length l1) (hc1 : l1.length ≤ c1) (hr2 : Kd.C k55 w A2 l2.length l2) (hc2 : l2.length ≤ c2) (HLD : Laid w) (h : stencilref13_ahead.f k l0 l1 l2 = some r) :
    Calls Tryd.prog 30 #[.slice A0 l0.length c0, .slice A1 l1.length c1, .slice A2 l2.length c2] w fun e w' => e = .returned (.bool r) ∧ Below w.heap.size w w' := by
  have hu55 := Tryd.underlying55
  have hu39 := Tryd.underlying39
  have HR0 := Aside0.mk hr0
  have HC0 := Aside0.mk hc0
  clear hr0 hc0
  have HR1 := Aside0.mk hr1
  have HC1 := Aside0.mk hc1
  clear hr1 hc1
  have HR2 := Aside0.mk hr2
  have HC2 := Aside0.mk hc2
  clear hr2 hc2
  have HB := Aside0.mk (Below.refl w.heap.size w)
  have H : (stencilref13_ahead.l0 k l0 l1 l2 0) = some r := h
  clear h
  have H' := Aside0.mk H
  clear H
  go_enter Tryd.func30, Tryd.ntmps30
  go_wp2
  go_loopg [7] k (fun kq v7 w' => ∃ (x7_1 : Int), v7 = .int .i64 x7_1 ∧ Aside0 (stencilref13_ahead.l0 kq l0 l1 l2 x7_1 = some r) ∧ Aside0 (kq ≤ k) ∧ Aside0 (Below w.heap.size w w'))
  case atStart => exact ⟨(0), (by first | rfl | (simp; done) | (simp [*]; done)), H', ⟨Nat.le_refl _⟩, ⟨by repeat (first | (with_reducible first | exact HB.out | apply below_alloc | apply pw_below_drewN | apply below_drew1) | exact HB.out)⟩⟩
  case round =>
    clear H'
    try clear c1
    try clear c2
    try clear p2
    try clear c3
    obtain ⟨x7_1, rfl, HA, HK1, HB⟩ := hrel
    cases gk with
    | zero => exact absurd HA.out (by simp [stencilref13_ahead.l0])
    | succ k1 =>
      have H := HA.out
      clear HA
      simp only [stencilref13_ahead.l0] at H
      by_cases c4 : x7_1 < (l0.length : Int)
      · rw [if_pos c4] at H
        have c4b0 : decide (x7_1 < (l0.length : Int)) = true := decide_eq_true c4
        clear c4
        replace H := Option.bind_eq_some_iff.mp H
        obtain ⟨⟨t173, t174, t175, t176, t177⟩, A50, H⟩ := H
        replace H : ((stencilref13_key.f l2 x7_1).bind fun bt178 => (if 0 ≤ x7_1 then (if (rd_T55 l0 x7_1).f1 = true then (stencilref13_ahead.j1 k1 l0 l1 l2 x7_1 bt178.1 bt178.2.1 bt178.2.2.1 bt178.2.2.2.1 bt178.2.2.2.2 t173 t174 t175 t176 t177) else (stencilref13_ahead.j1 k1 l0 l1 l2 x7_1 t173 t174 t175 t176 t177 bt178.1 bt178.2.1 bt178.2.2.1 bt178.2.2.2.1 bt178.2.2.2.2)) else (none))) = some r := H
        have A5 := Aside0.mk A50
        clear A50
        replace H := Option.bind_eq_some_iff.mp H
        obtain ⟨⟨t178, t179, t180, t181, t182⟩, A60, H⟩ := H
        replace H : (if 0 ≤ x7_1 then (if (rd_T55 l0 x7_1).f1 = true then (stencilref13_ahead.j1 k1 l0 l1 l2 x7_1 t178 t179 t180 t181 t182 t173 t174 t175 t176 t177) else (stencilref13_ahead.j1 k1 l0 l1 l2 x7_1 t173 t174 t175 t176 t177 t178 t179 t180 t181 t182)) else (none)) = some r := H
        have A6 := Aside0.mk A60
        clear A60
        by_cases c7 : 0 ≤ x7_1
        · rw [if_pos c7] at H
          have c7b0 : decide (0 ≤ x7_1) = true := decide_eq_true c7
          clear c7
          have HC8 := Aside0.mk H
          clear H
          go_upto_if 26 with (first | ((with_reducible refine gate_callee (f := 49) rfl ?_); refine goesL_ (some 18) rfl rfl Tryd.func49 (by kernel_rfl) rfl #[.slice A1 l1.length c1, .int .i64 x7_1] rfl (by (try simp only [List.map_toArray, List.map_cons, List.map_nil]); first | done | rfl | (simp only [List.length_drop, List.length_take]; rfl)) ?_; (with_reducible refine (stencilref13_key.calls _ _ l1 x7_1 t173 t174 t175 t176 t177 _ ?side1 ?side2 ?side3 A5.out).mono ?_); (case side1 => repeat (first | exact (Kd.C_below HR1.out HB.out) | (with_reducible refine Kd.C_alloc ?_ _) | (with_reducible refine Kd.C_drewN ?_ _) | (with_reducible refine Kd.C_drew ?_))); (case side2 => exact HC1.out); (case side3 => first | exact HLD | exact Laid.below HLD (by repeat (first | (with_reducible first | exact HB.out | apply below_alloc | apply pw_below_drewN | apply below_drew1) | exact HB.out))); rintro e w9 ⟨rfl, hb⟩; refine ⟨_, rfl, ?_⟩; have n0_ := Aside0.mk (below_step (by repeat (first | (with_reducible first | exact HB.out | apply below_alloc | apply pw_below_drewN | apply below_drew1) | exact HB.out)) hb); clear HB; have HB := n0_; clear n0_; (try clear hb); (try clear hb2); (try clear hk); (try clear hi)) | ((with_reducible refine gate_callee (f := 49) rfl ?_); refine goesL_ (some 21) rfl rfl Tryd.func49 (by kernel_rfl) rfl #[.slice A2 l2.length c2, .int .i64 x7_1] rfl (by (try simp only [List.map_toArray, List.map_cons, List.map_nil]); first | done | rfl | (simp only [List.length_drop, List.length_take]; rfl)) ?_; (with_reducible refine (stencilref13_key.calls _ _ l2 x7_1 t178 t179 t180 t181 t182 _ ?side1 ?side2 ?side3 A6.out).mono ?_); (case side1 => repeat (first | exact (Kd.C_below HR2.out HB.out) | (with_reducible refine Kd.C_alloc ?_ _) | (with_reducible refine Kd.C_drewN ?_ _) | (with_reducible refine Kd.C_drew ?_))); (case side2 => exact HC2.out); (case side3 => first | exact HLD | exact Laid.below HLD (by repeat (first | (with_reducible first | exact HB.out | apply below_alloc | apply pw_below_drewN | apply below_drew1) | exact HB.out))); rintro e w10 ⟨rfl, hb⟩; refine ⟨_, rfl, ?_⟩; have n0_ := Aside0.mk (below_step (by repeat (first | (with_reducible first | exact HB.out | apply below_alloc | apply pw_below_drewN | apply below_drew1) | exact HB.out)) hb); clear HB; have HB := n0_; clear n0_; (try clear hb); (try clear hb2); (try clear hk); (try clear hi)) | ((with_reducible refine gate_dst (N := 8) rfl ?_); refine box_event ?hg (N := 8) ?hd (cs := #[.bool false, .bool false, .string (⟨#[]⟩ : ByteArray), .int .i64 0, .int .i64 0]) (t := 55) ?hr ?_; (case hd => rfl); (case hg => rfl); (case hr => first | (go_simp; done) | (go_simp; rfl)); intro gb183 hg w11 hbox hb; have n0_ := Aside0.mk (below_step (by repeat (first | (with_reducible first | exact HB.out | apply below_alloc | apply pw_below_drewN | apply below_drew1) | exact HB.out)) hb); have n1_ := Aside0.mk (hbox); have n2_ := Aside0.mk ((by rw [hg]; exact (below_size (by repeat (first | (with_reducible first | exact HB.out | apply below_alloc | apply pw_below_drewN | apply below_drew1) | exact HB.out))) : w.heap.size ≤ gb183)); have n3_ := Aside0.mk ((by rw [hg]; exact (below_size (by repeat (first | (with_reducible first | exact HB.out | apply below_alloc | apply pw_below_drewN | apply below_drew1) | exact HB.out))) : w.heap.size ≤ gb183)); clear HB; have HB := n0_; have BK183 := n1_; have GW183 := n2_; have GE183 := n3_; clear n0_ n1_ n2_ n3_; clear hb hbox hg) | ((with_reducible refine gate_dst (N := 9) rfl ?_); refine box_event ?hg (N := 9) ?hd (cs := #[.bool false, .bool false, .string (⟨#[]⟩ : ByteArray), .int .i64 0, .int .i64 0]) (t := 55) ?hr ?_; (case hd => rfl); (case hg => rfl); (case hr => first | (go_simp; done) | (go_simp; rfl)); intro gb184 hg w12 hbox hb; have n0_ := Aside0.mk (blk_below (g := gb183) (o := .cells #[.bool false, .bool false, .string (⟨#[]⟩ : ByteArray), .int .i64 0, .int .i64 0] 55 (0, 0)) (by (with_reducible repeat (first | refine blk_drewN ?_ _ | refine blk_drew ?_ | refine blk_alloc ?_ _)); exact BK183.out) hb); have n1_ := Aside0.mk (below_step (by repeat (first | (with_reducible first | exact HB.out | apply below_alloc | apply pw_below_drewN | apply below_drew1 | refine below_set ?_ GE183.out) | exact HB.out)) hb); have n2_ := Aside0.mk (hbox); have n3_ := Aside0.mk ((by rw [hg]; exact (below_size (by repeat (first | (with_reducible first | exact HB.out | apply below_alloc | apply pw_below_drewN | apply below_drew1 | refine below_set ?_ GE183.out) | exact HB.out))) : w.heap.size ≤ gb184)); have n4_ := Aside0.mk ((by rw [hg]; exact (below_size (by repeat (first | (with_reducible first | exact HB.out | apply below_alloc | apply pw_below_drewN | apply below_drew1 | refine below_set ?_ GE183.out) | exact HB.out))) : w.heap.size ≤ gb184)); have n5_ := Aside0.mk ((by rw [hg]; exact Nat.ne_of_lt (blk_lt (g := gb183) (o := .cells #[.bool false, .bool false, .string (⟨#[]⟩ : ByteArray), .int .i64 0, .int .i64 0] 55 (0, 0)) (by (with_reducible repeat (first | refine blk_drewN ?_ _ | refine blk_drew ?_ | refine blk_alloc ?_ _)); exact BK183.out)) : gb183 ≠ gb184)); have n6_ := Aside0.mk ((by rw [hg]; exact Nat.ne_of_gt (blk_lt (g := gb183) (o := .cells #[.bool false, .bool false, .string (⟨#[]⟩ : ByteArray), .int .i64 0, .int .i64 0] 55 (0, 0)) (by (with_reducible repeat (first | refine blk_drewN ?_ _ | refine blk_drew ?_ | refine blk_alloc ?_ _)); exact BK183.out)) : gb184 ≠ gb183)); clear BK183; clear HB; have BK183 := n0_; have HB := n1_; have BK184 := n2_; have GW184 := n3_; have GE184 := n4_; have NB183_184 := n5_; have NB184_183 := n6_; clear n0_ n1_ n2_ n3_ n4_ n5_ n6_; clear hb hbox hg; have hnb13 := NB183_184.out; have hnc13 := NB184_183.out; have hcz14_0 : w12.cell? ⟨gb183, 0, none⟩ = some (.bool false) := (blk_cell BK183.out 0).trans rfl; have hcz14_1 : w12.cell? ⟨gb183, 1, none⟩ = some (.bool false) := (blk_cell BK183.out 1).trans rfl; have hcz14_2 : w12.cell? ⟨gb183, 2, none⟩ = some (.string (⟨#[]⟩ : ByteArray)) := (blk_cell BK183.out 2).trans rfl; have hcz14_3 : w12.cell? ⟨gb183, 3, none⟩ = some (.int .i64 0) := (blk_cell BK183.out 3).trans rfl; have hcz14_4 : w12.cell? ⟨gb183, 4, none⟩ = some (.int .i64 0) := (blk_cell BK183.out 4).trans rfl; have hfz14_0 := blk_frozen BK183.out 0; have hfz14_1 := blk_frozen BK183.out 1; have hfz14_2 := blk_frozen BK183.out 2; have hfz14_3 := blk_frozen BK183.out 3; have hfz14_4 := blk_frozen BK183.out 4; have hcz15_0 : w12.cell? ⟨gb184, 0, none⟩ = some (.bool false) := (blk_cell BK184.out 0).trans rfl; have hcz15_1 : w12.cell? ⟨gb184, 1, none⟩ = some (.bool false) := (blk_cell BK184.out 1).trans rfl; have hcz15_2 : w12.cell? ⟨gb184, 2, none⟩ = some (.string (⟨#[]⟩ : ByteArray)) := (blk_cell BK184.out 2).trans rfl; have hcz15_3 : w12.cell? ⟨gb184, 3, none⟩ = some (.int .i64 0) := (blk_cell BK184.out 3).trans rfl; have hcz15_4 : w12.cell? ⟨gb184, 4, none⟩ = some (.int .i64 0) := (blk_cell BK184.out 4).trans rfl; have hfz15_0 := blk_frozen BK184.out 0; have hfz15_1 := blk_frozen BK184.out 1; have hfz15_2 := blk_frozen BK184.out 2; have hfz15_3 := blk_frozen BK184.out 3; have hfz15_4 := blk_frozen BK184.out 4; have p185 : 0 ≤ (x7_1 : Int) := of_decide_eq_true (by first | (with_reducible assumption) | assumption); have q185 : x7_1 < (l0.length : Int) := of_decide_eq_true (by first | (with_reducible assumption) | assumption); obtain ⟨ad185, e185, hx185_0, hx185_1, hx185_2, hx185_3, hx185_4⟩ := at_T55 HR0.out x7_1 p185 q185; cases e185; have hn185_0 : ad185.block ≠ gb183 := Nat.ne_of_lt (Nat.lt_of_lt_of_le (by have := World.block_lt_of_cell? _ _ hx185_0; first | rwa [add_block] at this | exact this) GW183.out); have hn185_1 : ad185.block ≠ gb183 := Nat.ne_of_lt (Nat.lt_of_lt_of_le (by have := World.block_lt_of_cell? _ _ hx185_0; first | rwa [add_block] at this | exact this) GW183.out); have hn185_2 : ad185.block ≠ gb183 := Nat.ne_of_lt (Nat.lt_of_lt_of_le (by have := World.block_lt_of_cell? _ _ hx185_0; first | rwa [add_block] at this | exact this) GW183.out); have hn185_3 : ad185.block ≠ gb183 := Nat.ne_of_lt (Nat.lt_of_lt_of_le (by have := World.block_lt_of_cell? _ _ hx185_0; first | rwa [add_block] at this | exact this) GW183.out); have hn185_4 : ad185.block ≠ gb183 := Nat.ne_of_lt (Nat.lt_of_lt_of_le (by have := World.block_lt_of_cell? _ _ hx185_0; first | rwa [add_block] at this | exact this) GW183.out); have hn185_5 : ad185.block ≠ gb184 := Nat.ne_of_lt (Nat.lt_of_lt_of_le (by have := World.block_lt_of_cell? _ _ hx185_0; first | rwa [add_block] at this | exact this) GW184.out); have hn185_6 : ad185.block ≠ gb184 := Nat.ne_of_lt (Nat.lt_of_lt_of_le (by have := World.block_lt_of_cell? _ _ hx185_0; first | rwa [add_block] at this | exact this) GW184.out); have hn185_7 : ad185.block ≠ gb184 := Nat.ne_of_lt (Nat.lt_of_lt_of_le (by have := World.block_lt_of_cell? _ _ hx185_0; first | rwa [add_block] at this | exact this) GW184.out); have hn185_8 : ad185.block ≠ gb184 := Nat.ne_of_lt (Nat.lt_of_lt_of_le (by have := World.block_lt_of_cell? _ _ hx185_0; first | rwa [add_block] at this | exact this) GW184.out); have hn185_9 : ad185.block ≠ gb184 := Nat.ne_of_lt (Nat.lt_of_lt_of_le (by have := World.block_lt_of_cell? _ _ hx185_0; first | rwa [add_block] at this | exact this) GW184.out); replace hx185_0 := (HB.out.cell (World.block_lt_of_cell? w _ hx185_0)).trans hx185_0; replace hx185_1 := (HB.out.cell (World.block_lt_of_cell? w _ hx185_1)).trans hx185_1; replace hx185_2 := (HB.out.cell (World.block_lt_of_cell? w _ hx185_2)).trans hx185_2; replace hx185_3 := (HB.out.cell (World.block_lt_of_cell? w _ hx185_3)).trans hx185_3; replace hx185_4 := (HB.out.cell (World.block_lt_of_cell? w _ hx185_4)).trans hx185_4; replace hx185_0 := (cell_far (p := ⟨gb183, 0, none⟩) (by first | (rw [add_block]; exact hn185_0) | (show (Addr.add _ _).block ≠ _; rw [add_block]; exact hn185_0) | exact hn185_0) (.bool t173)).trans hx185_0; replace hx185_1 := (cell_far (p := ⟨gb183, 0, none⟩) (by first | (rw [add_block]; exact hn185_0) | (show (Addr.add _ _).block ≠ _; rw [add_block]; exact hn185_0) | exact hn185_0) (.bool t173)).trans hx185_1; replace hx185_2 := (cell_far (p := ⟨gb183, 0, none⟩) (by first | (rw [add_block]; exact hn185_0) | (show (Addr.add _ _).block ≠ _; rw [add_block]; exact hn185_0) | exact hn185_0) (.bool t173)).trans hx185_2; replace hx185_3 := (cell_far (p := ⟨gb183, 0, none⟩) (by first | (rw [add_block]; exact hn185_0) | (show (Addr.add _ _).block ≠ _; rw [add_block]; exact hn185_0) | exact hn185_0) (.bool t173)).trans hx185_3; replace hx185_4 := (cell_far (p := ⟨gb183, 0, none⟩) (by first | (rw [add_block]; exact hn185_0) | (show (Addr.add _ _).block ≠ _; rw [add_block]; exact hn185_0) | exact hn185_0) (.bool t173)).trans hx185_4; replace hx185_0 := (cell_far (p := ⟨gb183, 1, none⟩) (by first | (rw [add_block]; exact hn185_1) | (show (Addr.add _ _).block ≠ _; rw [add_block]; exact hn185_1) | exact hn185_1) (.bool t174)).trans hx185_0; replace hx185_1 := (cell_far (p := ⟨gb183, 1, none⟩) (by first | (rw [add_block]; exact hn185_1) | (show (Addr.add _ _).block ≠ _; rw [add_block]; exact hn185_1) | exact hn185_1) (.bool t174)).trans hx185_1; replace hx185_2 := (cell_far (p := ⟨gb183, 1, none⟩) (by first | (rw [add_block]; exact hn185_1) | (show (Addr.add _ _).block ≠ _; rw [add_block]; exact hn185_1) | exact hn185_1) (.bool t174)).trans hx185_2; replace hx185_3 := (cell_far (p := ⟨gb183, 1, none⟩) (by first | (rw [add_block]; exact hn185_1) | (show (Addr.add _ _).block ≠ _; rw [add_block]; exact hn185_1) | exact hn185_1) (.bool t174)).trans hx185_3; replace hx185_4 := (cell_far (p := ⟨gb183, 1, none⟩) (by first | (rw [add_block]; exact hn185_1) | (show (Addr.add _ _).block ≠ _; rw [add_block]; exact hn185_1) | exact hn185_1) (.bool t174)).trans hx185_4; replace hx185_0 := (cell_far (p := ⟨gb183, 2, none⟩) (by first | (rw [add_block]; exact hn185_2) | (show (Addr.add _ _).block ≠ _; rw [add_block]; exact hn185_2) | exact hn185_2) (.string t175)).trans hx185_0; replace hx185_1 := (cell_far (p := ⟨gb183, 2, none⟩) (by first | (rw [add_block]; exact hn185_2) | (show (Addr.add _ _).block ≠ _; rw [add_block]; exact hn185_2) | exact hn185_2) (.string t175)).trans hx185_1; replace hx185_2 := (cell_far (p := ⟨gb183, 2, none⟩) (by first | (rw [add_block]; exact hn185_2) | (show (Addr.add _ _).block ≠ _; rw [add_block]; exact hn185_2) | exact hn185_2) (.string t175)).trans hx185_2; replace hx185_3 := (cell_far (p := ⟨gb183, 2, none⟩) (by first | (rw [add_block]; exact hn185_2) | (show (Addr.add _ _).block ≠ _; rw [add_block]; exact hn185_2) | exact hn185_2) (.string t175)).trans hx185_3; replace hx185_4 := (cell_far (p := ⟨gb183, 2, none⟩) (by first | (rw [add_block]; exact hn185_2) | (show (Addr.add _ _).block ≠ _; rw [add_block]; exact hn185_2) | exact hn185_2) (.string t175)).trans hx185_4; replace hx185_0 := (cell_far (p := ⟨gb183, 3, none⟩) (by first | (rw [add_block]; exact hn185_3) | (show (Addr.add _ _).block ≠ _; rw [add_block]; exact hn185_3) | exact hn185_3) (.int .i64 t176)).trans hx185_0; replace hx185_1 := (cell_far (p := ⟨gb183, 3, none⟩) (by first | (rw [add_block]; exact hn185_3) | (show (Addr.add _ _).block ≠ _; rw [add_block]; exact hn185_3) | exact hn185_3) (.int .i64 t176)).trans hx185_1; replace hx185_2 := (cell_far (p := ⟨gb183, 3, none⟩) (by first | (rw [add_block]; exact hn185_3) | (show (Addr.add _ _).block ≠ _; rw [add_block]; exact hn185_3) | exact hn185_3) (.int .i64 t176)).trans hx185_2; replace hx185_3 := (cell_far (p := ⟨gb183, 3, none⟩) (by first | (rw [add_block]; exact hn185_3) | (show (Addr.add _ _).block ≠ _; rw [add_block]; exact hn185_3) | exact hn185_3) (.int .i64 t176)).trans hx185_3; replace hx185_4 := (cell_far (p := ⟨gb183, 3, none⟩) (by first | (rw [add_block]; exact hn185_3) | (show (Addr.add _ _).block ≠ _; rw [add_block]; exact hn185_3) | exact hn185_3) (.int .i64 t176)).trans hx185_4; replace hx185_0 := (cell_far (p := ⟨gb183, 4, none⟩) (by first | (rw [add_block]; exact hn185_4) | (show (Addr.add _ _).block ≠ _; rw [add_block]; exact hn185_4) | exact hn185_4) (.int .i64 t177)).trans hx185_0; replace hx185_1 := (cell_far (p := ⟨gb183, 4, none⟩) (by first | (rw [add_block]; exact hn185_4) | (show (Addr.add _ _).block ≠ _; rw [add_block]; exact hn185_4) | exact hn185_4) (.int .i64 t177)).trans hx185_1; replace hx185_2 := (cell_far (p := ⟨gb183, 4, none⟩) (by first | (rw [add_block]; exact hn185_4) | (show (Addr.add _ _).block ≠ _; rw [add_block]; exact hn185_4) | exact hn185_4) (.int .i64 t177)).trans hx185_2; replace hx185_3 := (cell_far (p := ⟨gb183, 4, none⟩) (by first | (rw [add_block]; exact hn185_4) | (show (Addr.add _ _).block ≠ _; rw [add_block]; exact hn185_4) | exact hn185_4) (.int .i64 t177)).trans hx185_3; replace hx185_4 := (cell_far (p := ⟨gb183, 4, none⟩) (by first | (rw [add_block]; exact hn185_4) | (show (Addr.add _ _).block ≠ _; rw [add_block]; exact hn185_4) | exact hn185_4) (.int .i64 t177)).trans hx185_4; replace hx185_0 := (cell_far (p := ⟨gb184, 0, none⟩) (by first | (rw [add_block]; exact hn185_5) | (show (Addr.add _ _).block ≠ _; rw [add_block]; exact hn185_5) | exact hn185_5) (.bool t178)).trans hx185_0; replace hx185_1 := (cell_far (p := ⟨gb184, 0, none⟩) (by first | (rw [add_block]; exact hn185_5) | (show (Addr.add _ _).block ≠ _; rw [add_block]; exact hn185_5) | exact hn185_5) (.bool t178)).trans hx185_1; replace hx185_2 := (cell_far (p := ⟨gb184, 0, none⟩) (by first | (rw [add_block]; exact hn185_5) | (show (Addr.add _ _).block ≠ _; rw [add_block]; exact hn185_5) | exact hn185_5) (.bool t178)).trans hx185_2; replace hx185_3 := (cell_far (p := ⟨gb184, 0, none⟩) (by first | (rw [add_block]; exact hn185_5) | (show (Addr.add _ _).block ≠ _; rw [add_block]; exact hn185_5) | exact hn185_5) (.bool t178)).trans hx185_3; replace hx185_4 := (cell_far (p := ⟨gb184, 0, none⟩) (by first | (rw [add_block]; exact hn185_5) | (show (Addr.add _ _).block ≠ _; rw [add_block]; exact hn185_5) | exact hn185_5) (.bool t178)).trans hx185_4; replace hx185_0 := (cell_far (p := ⟨gb184, 1, none⟩) (by first | (rw [add_block]; exact hn185_6) | (show (Addr.add _ _).block ≠ _; rw [add_block]; exact hn185_6) | exact hn185_6) (.bool t179)).trans hx185_0; replace hx185_1 := (cell_far (p := ⟨gb184, 1, none⟩) (by first | (rw [add_block]; exact hn185_6) | (show (Addr.add _ _).block ≠ _; rw [add_block]; exact hn185_6) | exact hn185_6) (.bool t179)).trans hx185_1; replace hx185_2 := (cell_far (p := ⟨gb184, 1, none⟩) (by first | (rw [add_block]; exact hn185_6) | (show (Addr.add _ _).block ≠ _; rw [add_block]; exact hn185_6) | exact hn185_6) (.bool t179)).trans hx185_2; replace hx185_3 := (cell_far (p := ⟨gb184, 1, none⟩) (by first | (rw [add_block]; exact hn185_6) | (show (Addr.add _ _).block ≠ _; rw [add_block]; exact hn185_6) | exact hn185_6) (.bool t179)).trans hx185_3; replace hx185_4 := (cell_far (p := ⟨gb184, 1, none⟩) (by first | (rw [add_block]; exact hn185_6) | (show (Addr.add _ _).block ≠ _; rw [add_block]; exact hn185_6) | exact hn185_6) (.bool t179)).trans hx185_4; replace hx185_0 := (cell_far (p := ⟨gb184, 2, none⟩) (by first | (rw [add_block]; exact hn185_7) | (show (Addr.add _ _).block ≠ _; rw [add_block]; exact hn185_7) | exact hn185_7) (.string t180)).trans hx185_0; replace hx185_1 := (cell_far (p := ⟨gb184, 2, none⟩) (by first | (rw [add_block]; exact hn185_7) | (show (Addr.add _ _).block ≠ _; rw [add_block]; exact hn185_7) | exact hn185_7) (.string t180)).trans hx185_1; replace hx185_2 := (cell_far (p := ⟨gb184, 2, none⟩) (by first | (rw [add_block]; exact hn185_7) | (show (Addr.add _ _).block ≠ _; rw [add_block]; exact hn185_7) | exact hn185_7) (.string t180)).trans hx185_2; replace hx185_3 := (cell_far (p := ⟨gb184, 2, none⟩) (by first | (rw [add_block]; exact hn185_7) | (show (Addr.add _ _).block ≠ _; rw [add_block]; exact hn185_7) | exact hn185_7) (.string t180)).trans hx185_3; replace hx185_4 := (cell_far (p := ⟨gb184, 2, none⟩) (by first | (rw [add_block]; exact hn185_7) | (show (Addr.add _ _).block ≠ _; rw [add_block]; exact hn185_7) | exact hn185_7) (.string t180)).trans hx185_4; replace hx185_0 := (cell_far (p := ⟨gb184, 3, none⟩) (by first | (rw [add_block]; exact hn185_8) | (show (Addr.add _ _).block ≠ _; rw [add_block]; exact hn185_8) | exact hn185_8) (.int .i64 t181)).trans hx185_0; replace hx185_1 := (cell_far (p := ⟨gb184, 3, none⟩) (by first | (rw [add_block]; exact hn185_8) | (show (Addr.add _ _).block ≠ _; rw [add_block]; exact hn185_8) | exact hn185_8) (.int .i64 t181)).trans hx185_1; replace hx185_2 := (cell_far (p := ⟨gb184, 3, none⟩) (by first | (rw [add_block]; exact hn185_8) | (show (Addr.add _ _).block ≠ _; rw [add_block]; exact hn185_8) | exact hn185_8) (.int .i64 t181)).trans hx185_2; replace hx185_3 := (cell_far (p := ⟨gb184, 3, none⟩) (by first | (rw [add_block]; exact hn185_8) | (show (Addr.add _ _).block ≠ _; rw [add_block]; exact hn185_8) | exact hn185_8) (.int .i64 t181)).trans hx185_3; replace hx185_4 := (cell_far (p := ⟨gb184, 3, none⟩) (by first | (rw [add_block]; exact hn185_8) | (show (Addr.add _ _).block ≠ _; rw [add_block]; exact hn185_8) | exact hn185_8) (.int .i64 t181)).trans hx185_4; replace hx185_0 := (cell_far (p := ⟨gb184, 4, none⟩) (by first | (rw [add_block]; exact hn185_9) | (show (Addr.add _ _).block ≠ _; rw [add_block]; exact hn185_9) | exact hn185_9) (.int .i64 t182)).trans hx185_0; replace hx185_1 := (cell_far (p := ⟨gb184, 4, none⟩) (by first | (rw [add_block]; exact hn185_9) | (show (Addr.add _ _).block ≠ _; rw [add_block]; exact hn185_9) | exact hn185_9) (.int .i64 t182)).trans hx185_1; replace hx185_2 := (cell_far (p := ⟨gb184, 4, none⟩) (by first | (rw [add_block]; exact hn185_9) | (show (Addr.add _ _).block ≠ _; rw [add_block]; exact hn185_9) | exact hn185_9) (.int .i64 t182)).trans hx185_2; replace hx185_3 := (cell_far (p := ⟨gb184, 4, none⟩) (by first | (rw [add_block]; exact hn185_9) | (show (Addr.add _ _).block ≠ _; rw [add_block]; exact hn185_9) | exact hn185_9) (.int .i64 t182)).trans hx185_3; replace hx185_4 := (cell_far (p := ⟨gb184, 4, none⟩) (by first | (rw [add_block]; exact hn185_9) | (show (Addr.add _ _).block ≠ _; rw [add_block]; exact hn185_9) | exact hn185_9) (.int .i64 t182)).trans hx185_4; clear hn185_0; clear hn185_1; clear hn185_2; clear hn185_3; clear hn185_4; clear hn185_5; clear hn185_6; clear hn185_7; clear hn185_8; clear hn185_9; replace p185 := eq_true p185; replace q185 := eq_true q185))
          (try simp only [Act.put, List.setIfInBounds_toArray, List.set_cons_zero, List.set_cons_succ])
          go_cut [] (fun wc => ∃ (kq : Nat) (x184000_7 : Bool) (x184001_7 : Bool) (x184002_7 : ByteArray) (x184003_7 : Int) (x184004_7 : Int) (x185000_7 : Bool) (x185001_7 : Bool) (x185002_7 : ByteArray) (x185003_7 : Int) (x185004_7 : Int), Aside0 (stencilref13_ahead.j1 kq l0 l1 l2 x7_1 x184000_7 x184001_7 x184002_7 x184003_7 x184004_7 x185000_7 x185001_7 x185002_7 x185003_7 x185004_7 = some r) ∧ Aside0 (kq ≤ k1) ∧ Aside0 (wc.heap[gb183]? = some (.cells #[.bool x184000_7, .bool x184001_7, .string x184002_7, .int .i64 x184003_7, .int .i64 x184004_7] 55 (0, 0))) ∧ Aside0 (wc.heap[gb184]? = some (.cells #[.bool x185000_7, .bool x185001_7, .string x185002_7, .int .i64 x185003_7, .int .i64 x185004_7] 55 (0, 0))) ∧ Aside0 (Below w.heap.size w wc))
          case first =>
            have H := HC8.out
            clear HC8
            obtain ⟨bq16, hbq16⟩ : ∃ b_ : Bool, b_ = ((rd_T55 l0 x7_1).f1) := ⟨_, rfl⟩
            replace H : (if bq16 = true then (stencilref13_ahead.j1 k1 l0 l1 l2 x7_1 t178 t179 t180 t181 t182 t173 t174 t175 t176 t177) else (stencilref13_ahead.j1 k1 l0 l1 l2 x7_1 t173 t174 t175 t176 t177 t178 t179 t180 t181 t182)) = some r := by rw [← hbq16] at H; exact H
            have Nbq16 := Aside0.mk hbq16
            clear hbq16
            (try rw [← Nbq16.out])
            by_cases c17 : bq16 = true
            · subst c17
              have H1 : (stencilref13_ahead.j1 k1 l0 l1 l2 x7_1 t178 t179 t180 t181 t182 t173 t174 t175 t176 t177) = some r := by rw [if_pos rfl] at H; exact H
              clear H
              have H := H1
              clear H1
              have H' := Aside0.mk H
              clear H
              have hnb18 := NB184_183.out
              have hnc18 := NB183_184.out
              have hcz19_0 : w12.cell? ⟨gb184, 0, none⟩ = some (.bool false) := (blk_cell BK184.out 0).trans rfl
              have hcz19_1 : w12.cell? ⟨gb184, 1, none⟩ = some (.bool false) := (blk_cell BK184.out 1).trans rfl
              have hcz19_2 : w12.cell? ⟨gb184, 2, none⟩ = some (.string (⟨#[]⟩ : ByteArray)) := (blk_cell BK184.out 2).trans rfl
              have hcz19_3 : w12.cell? ⟨gb184, 3, none⟩ = some (.int .i64 0) := (blk_cell BK184.out 3).trans rfl
              have hcz19_4 : w12.cell? ⟨gb184, 4, none⟩ = some (.int .i64 0) := (blk_cell BK184.out 4).trans rfl
              have hfz19_0 := blk_frozen BK184.out 0
              have hfz19_1 := blk_frozen BK184.out 1
              have hfz19_2 := blk_frozen BK184.out 2
              have hfz19_3 := blk_frozen BK184.out 3
              have hfz19_4 := blk_frozen BK184.out 4
              have hcz20_0 : w12.cell? ⟨gb183, 0, none⟩ = some (.bool false) := (blk_cell BK183.out 0).trans rfl
              have hcz20_1 : w12.cell? ⟨gb183, 1, none⟩ = some (.bool false) := (blk_cell BK183.out 1).trans rfl
              have hcz20_2 : w12.cell? ⟨gb183, 2, none⟩ = some (.string (⟨#[]⟩ : ByteArray)) := (blk_cell BK183.out 2).trans rfl
              have hcz20_3 : w12.cell? ⟨gb183, 3, none⟩ = some (.int .i64 0) := (blk_cell BK183.out 3).trans rfl
              have hcz20_4 : w12.cell? ⟨gb183, 4, none⟩ = some (.int .i64 0) := (blk_cell BK183.out 4).trans rfl
              have hfz20_0 := blk_frozen BK183.out 0
              have hfz20_1 := blk_frozen BK183.out 1
              have hfz20_2 := blk_frozen BK183.out 2
              have hfz20_3 := blk_frozen BK183.out 3
              have hfz20_4 := blk_frozen BK183.out 4
              go_wp2
              go_meet
              case rel => exact ⟨_, (t178), (t179), (t180), (t181), (t182), (t173), (t174), (t175), (t176), (t177), H', ⟨by have := HK1.out; first | omega | exact Nat.le_refl _⟩, ⟨by (with_reducible repeat (first | refine blk_drewN ?_ _ | refine blk_drew ?_ | refine blk_alloc ?_ _)); refine blk_far ?_ NB183_184.out _; (with_reducible repeat (first | refine blk_drewN ?_ _ | refine blk_drew ?_ | refine blk_alloc ?_ _)); refine blk_far ?_ NB183_184.out _; (with_reducible repeat (first | refine blk_drewN ?_ _ | refine blk_drew ?_ | refine blk_alloc ?_ _)); refine blk_far ?_ NB183_184.out _; (with_reducible repeat (first | refine blk_drewN ?_ _ | refine blk_drew ?_ | refine blk_alloc ?_ _)); refine blk_far ?_ NB183_184.out _; (with_reducible repeat (first | refine blk_drewN ?_ _ | refine blk_drew ?_ | refine blk_alloc ?_ _)); refine blk_far ?_ NB183_184.out _; (with_reducible repeat (first | refine blk_drewN ?_ _ | refine blk_drew ?_ | refine blk_alloc ?_ _)); refine blk_put (cs := #[.bool t178, .bool t179, .string t180, .int .i64 t181, .int .i64 t177]) ?_ 4 _ rfl; (with_reducible repeat (first | refine blk_drewN ?_ _ | refine blk_drew ?_ | refine blk_alloc ?_ _)); refine blk_put (cs := #[.bool t178, .bool t179, .string t180, .int .i64 t176, .int .i64 t177]) ?_ 3 _ rfl; (with_reducible repeat (first | refine blk_drewN ?_ _ | refine blk_drew ?_ | refine blk_alloc ?_ _)); refine blk_put (cs := #[.bool t178, .bool t179, .string t175, .int .i64 t176, .int .i64 t177]) ?_ 2 _ rfl; (with_reducible repeat (first | refine blk_drewN ?_ _ | refine blk_drew ?_ | refine blk_alloc ?_ _)); refine blk_put (cs := #[.bool t178, .bool t174, .string t175, .int .i64 t176, .int .i64 t177]) ?_ 1 _ rfl; (with_reducible repeat (first | refine blk_drewN ?_ _ | refine blk_drew ?_ | refine blk_alloc ?_ _)); refine blk_put (cs := #[.bool t173, .bool t174, .string t175, .int .i64 t176, .int .i64 t177]) ?_ 0 _ rfl; (with_reducible repeat (first | refine blk_drewN ?_ _ | refine blk_drew ?_ | refine blk_alloc ?_ _)); refine blk_far ?_ NB183_184.out _; (with_reducible repeat (first | refine blk_drewN ?_ _ | refine blk_drew ?_ | refine blk_alloc ?_ _)); refine blk_far ?_ NB183_184.out _; (with_reducible repeat (first | refine blk_drewN ?_ _ | refine blk_drew ?_ | refine blk_alloc ?_ _)); refine blk_far ?_ NB183_184.out _; (with_reducible repeat (first | refine blk_drewN ?_ _ | refine blk_drew ?_ | refine blk_alloc ?_ _)); refine blk_far ?_ NB183_184.out _; (with_reducible repeat (first | refine blk_drewN ?_ _ | refine blk_drew ?_ | refine blk_alloc ?_ _)); refine blk_far ?_ NB183_184.out _; (with_reducible repeat (first | refine blk_drewN ?_ _ | refine blk_drew ?_ | refine blk_alloc ?_ _)); refine blk_put (cs := #[.bool t173, .bool t174, .string t175, .int .i64 t176, .int .i64 0]) ?_ 4 _ rfl; (with_reducible repeat (first | refine blk_drewN ?_ _ | refine blk_drew ?_ | refine blk_alloc ?_ _)); refine blk_put (cs := #[.bool t173, .bool t174, .string t175, .int .i64 0, .int .i64 0]) ?_ 3 _ rfl; (with_reducible repeat (first | refine blk_drewN ?_ _ | refine blk_drew ?_ | refine blk_alloc ?_ _)); refine blk_put (cs := #[.bool t173, .bool t174, .string (⟨#[]⟩ : ByteArray), .int .i64 0, .int .i64 0]) ?_ 2 _ rfl; (with_reducible repeat (first | refine blk_drewN ?_ _ | refine blk_drew ?_ | refine blk_alloc ?_ _)); refine blk_put (cs := #[.bool t173, .bool false, .string (⟨#[]⟩ : ByteArray), .int .i64 0, .int .i64 0]) ?_ 1 _ rfl; (with_reducible repeat (first | refine blk_drewN ?_ _ | refine blk_drew ?_ | refine blk_alloc ?_ _)); refine blk_put (cs := #[.bool false, .bool false, .string (⟨#[]⟩ : ByteArray), .int .i64 0, .int .i64 0]) ?_ 0 _ rfl; (with_reducible repeat (first | refine blk_drewN ?_ _ | refine blk_drew ?_ | refine blk_alloc ?_ _)); exact BK183.out⟩, ⟨by (with_reducible repeat (first | refine blk_drewN ?_ _ | refine blk_drew ?_ | refine blk_alloc ?_ _)); refine blk_put (cs := #[.bool t173, .bool t174, .string t175, .int .i64 t176, .int .i64 t182]) ?_ 4 _ rfl; (with_reducible repeat (first | refine blk_drewN ?_ _ | refine blk_drew ?_ | refine blk_alloc ?_ _)); refine blk_put (cs := #[.bool t173, .bool t174, .string t175, .int .i64 t181, .int .i64 t182]) ?_ 3 _ rfl; (with_reducible repeat (first | refine blk_drewN ?_ _ | refine blk_drew ?_ | refine blk_alloc ?_ _)); refine blk_put (cs := #[.bool t173, .bool t174, .string t180, .int .i64 t181, .int .i64 t182]) ?_ 2 _ rfl; (with_reducible repeat (first | refine blk_drewN ?_ _ | refine blk_drew ?_ | refine blk_alloc ?_ _)); refine blk_put (cs := #[.bool t173, .bool t179, .string t180, .int .i64 t181, .int .i64 t182]) ?_ 1 _ rfl; (with_reducible repeat (first | refine blk_drewN ?_ _ | refine blk_drew ?_ | refine blk_alloc ?_ _)); refine blk_put (cs := #[.bool t178, .bool t179, .string t180, .int .i64 t181, .int .i64 t182]) ?_ 0 _ rfl; (with_reducible repeat (first | refine blk_drewN ?_ _ | refine blk_drew ?_ | refine blk_alloc ?_ _)); refine blk_far ?_ NB184_183.out _; (with_reducible repeat (first | refine blk_drewN ?_ _ | refine blk_drew ?_ | refine blk_alloc ?_ _)); refine blk_far ?_ NB184_183.out _; (with_reducible repeat (first | refine blk_drewN ?_ _ | refine blk_drew ?_ | refine blk_alloc ?_ _)); refine blk_far ?_ NB184_183.out _; (with_reducible repeat (first | refine blk_drewN ?_ _ | refine blk_drew ?_ | refine blk_alloc ?_ _)); refine blk_far ?_ NB184_183.out _; (with_reducible repeat (first | refine blk_drewN ?_ _ | refine blk_drew ?_ | refine blk_alloc ?_ _)); refine blk_far ?_ NB184_183.out _; (with_reducible repeat (first | refine blk_drewN ?_ _ | refine blk_drew ?_ | refine blk_alloc ?_ _)); refine blk_put (cs := #[.bool t178, .bool t179, .string t180, .int .i64 t181, .int .i64 0]) ?_ 4 _ rfl; (with_reducible repeat (first | refine blk_drewN ?_ _ | refine blk_drew ?_ | refine blk_alloc ?_ _)); refine blk_put (cs := #[.bool t178, .bool t179, .string t180, .int .i64 0, .int .i64 0]) ?_ 3 _ rfl; (with_reducible repeat (first | refine blk_drewN ?_ _ | refine blk_drew ?_ | refine blk_alloc ?_ _)); refine blk_put (cs := #[.bool t178, .bool t179, .string (⟨#[]⟩ : ByteArray), .int .i64 0, .int .i64 0]) ?_ 2 _ rfl; (with_reducible repeat (first | refine blk_drewN ?_ _ | refine blk_drew ?_ | refine blk_alloc ?_ _)); refine blk_put (cs := #[.bool t178, .bool false, .string (⟨#[]⟩ : ByteArray), .int .i64 0, .int .i64 0]) ?_ 1 _ rfl; (with_reducible repeat (first | refine blk_drewN ?_ _ | refine blk_drew ?_ | refine blk_alloc ?_ _)); refine blk_put (cs := #[.bool false, .bool false, .string (⟨#[]⟩ : ByteArray), .int .i64 0, .int .i64 0]) ?_ 0 _ rfl; (with_reducible repeat (first | refine blk_drewN ?_ _ | refine blk_drew ?_ | refine blk_alloc ?_ _)); refine blk_far ?_ NB184_183.out _; (with_reducible repeat (first | refine blk_drewN ?_ _ | refine blk_drew ?_ | refine blk_alloc ?_ _)); refine blk_far ?_ NB184_183.out _; (with_reducible repeat (first | refine blk_drewN ?_ _ | refine blk_drew ?_ | refine blk_alloc ?_ _)); refine blk_far ?_ NB184_183.out _; (with_reducible repeat (first | refine blk_drewN ?_ _ | refine blk_drew ?_ | refine blk_alloc ?_ _)); refine blk_far ?_ NB184_183.out _; (with_reducible repeat (first | refine blk_drewN ?_ _ | refine blk_drew ?_ | refine blk_alloc ?_ _)); refine blk_far ?_ NB184_183.out _; (with_reducible repeat (first | refine blk_drewN ?_ _ | refine blk_drew ?_ | refine blk_alloc ?_ _)); exact BK184.out⟩, ⟨by repeat (first | (with_reducible first | exact HB.out | apply below_alloc | apply pw_below_drewN | apply below_drew1 | refine below_set ?_ GE183.out | refine below_set ?_ GE184.out) | exact HB.out)⟩⟩
            · replace c17 := Bool.eq_false_iff.mpr c17
              subst c17
              have H1 : (stencilref13_ahead.j1 k1 l0 l1 l2 x7_1 t173 t174 t175 t176 t177 t178 t179 t180 t181 t182) = some r := by rw [if_neg (show ¬ (false = true) by decide)] at H; exact H
              clear H
              have H := H1
              clear H1
              have H' := Aside0.mk H
              clear H
              go_wp2
              go_meet
              case rel => exact ⟨_, (t173), (t174), (t175), (t176), (t177), (t178), (t179), (t180), (t181), (t182), H', ⟨by have := HK1.out; first | omega | exact Nat.le_refl _⟩, ⟨by (with_reducible repeat (first | refine blk_drewN ?_ _ | refine blk_drew ?_ | refine blk_alloc ?_ _)); refine blk_far ?_ NB183_184.out _; (with_reducible repeat (first | refine blk_drewN ?_ _ | refine blk_drew ?_ | refine blk_alloc ?_ _)); refine blk_far ?_ NB183_184.out _; (with_reducible repeat (first | refine blk_drewN ?_ _ | refine blk_drew ?_ | refine blk_alloc ?_ _)); refine blk_far ?_ NB183_184.out _; (with_reducible repeat (first | refine blk_drewN ?_ _ | refine blk_drew ?_ | refine blk_alloc ?_ _)); refine blk_far ?_ NB183_184.out _; (with_reducible repeat (first | refine blk_drewN ?_ _ | refine blk_drew ?_ | refine blk_alloc ?_ _)); refine blk_far ?_ NB183_184.out _; (with_reducible repeat (first | refine blk_drewN ?_ _ | refine blk_drew ?_ | refine blk_alloc ?_ _)); refine blk_put (cs := #[.bool t173, .bool t174, .string t175, .int .i64 t176, .int .i64 0]) ?_ 4 _ rfl; (with_reducible repeat (first | refine blk_drewN ?_ _ | refine blk_drew ?_ | refine blk_alloc ?_ _)); refine blk_put (cs := #[.bool t173, .bool t174, .string t175, .int .i64 0, .int .i64 0]) ?_ 3 _ rfl; (with_reducible repeat (first | refine blk_drewN ?_ _ | refine blk_drew ?_ | refine blk_alloc ?_ _)); refine blk_put (cs := #[.bool t173, .bool t174, .string (⟨#[]⟩ : ByteArray), .int .i64 0, .int .i64 0]) ?_ 2 _ rfl; (with_reducible repeat (first | refine blk_drewN ?_ _ | refine blk_drew ?_ | refine blk_alloc ?_ _)); refine blk_put (cs := #[.bool t173, .bool false, .string (⟨#[]⟩ : ByteArray), .int .i64 0, .int .i64 0]) ?_ 1 _ rfl; (with_reducible repeat (first | refine blk_drewN ?_ _ | refine blk_drew ?_ | refine blk_alloc ?_ _)); refine blk_put (cs := #[.bool false, .bool false, .string (⟨#[]⟩ : ByteArray), .int .i64 0, .int .i64 0]) ?_ 0 _ rfl; (with_reducible repeat (first | refine blk_drewN ?_ _ | refine blk_drew ?_ | refine blk_alloc ?_ _)); exact BK183.out⟩, ⟨by (with_reducible repeat (first | refine blk_drewN ?_ _ | refine blk_drew ?_ | refine blk_alloc ?_ _)); refine blk_put (cs := #[.bool t178, .bool t179, .string t180, .int .i64 t181, .int .i64 0]) ?_ 4 _ rfl; (with_reducible repeat (first | refine blk_drewN ?_ _ | refine blk_drew ?_ | refine blk_alloc ?_ _)); refine blk_put (cs := #[.bool t178, .bool t179, .string t180, .int .i64 0, .int .i64 0]) ?_ 3 _ rfl; (with_reducible repeat (first | refine blk_drewN ?_ _ | refine blk_drew ?_ | refine blk_alloc ?_ _)); refine blk_put (cs := #[.bool t178, .bool t179, .string (⟨#[]⟩ : ByteArray), .int .i64 0, .int .i64 0]) ?_ 2 _ rfl; (with_reducible repeat (first | refine blk_drewN ?_ _ | refine blk_drew ?_ | refine blk_alloc ?_ _)); refine blk_put (cs := #[.bool t178, .bool false, .string (⟨#[]⟩ : ByteArray), .int .i64 0, .int .i64 0]) ?_ 1 _ rfl; (with_reducible repeat (first | refine blk_drewN ?_ _ | refine blk_drew ?_ | refine blk_alloc ?_ _)); refine blk_put (cs := #[.bool false, .bool false, .string (⟨#[]⟩ : ByteArray), .int .i64 0, .int .i64 0]) ?_ 0 _ rfl; (with_reducible repeat (first | refine blk_drewN ?_ _ | refine blk_drew ?_ | refine blk_alloc ?_ _)); refine blk_far ?_ NB184_183.out _; (with_reducible repeat (first | refine blk_drewN ?_ _ | refine blk_drew ?_ | refine blk_alloc ?_ _)); refine blk_far ?_ NB184_183.out _; (with_reducible repeat (first | refine blk_drewN ?_ _ | refine blk_drew ?_ | refine blk_alloc ?_ _)); refine blk_far ?_ NB184_183.out _; (with_reducible repeat (first | refine blk_drewN ?_ _ | refine blk_drew ?_ | refine blk_alloc ?_ _)); refine blk_far ?_ NB184_183.out _; (with_reducible repeat (first | refine blk_drewN ?_ _ | refine blk_drew ?_ | refine blk_alloc ?_ _)); refine blk_far ?_ NB184_183.out _; (with_reducible repeat (first | refine blk_drewN ?_ _ | refine blk_drew ?_ | refine blk_alloc ?_ _)); exact BK184.out⟩, ⟨by repeat (first | (with_reducible first | exact HB.out | apply below_alloc | apply pw_below_drewN | apply below_drew1 | refine below_set ?_ GE183.out | refine below_set ?_ GE184.out) | exact HB.out)⟩⟩
          case rest =>
            clear HC8
            try clear c1
            try clear p1
            try clear q1
            try clear hx1
            try clear c2
            try clear p2
            try clear c3
            try clear c4
            try clear c4b0
            try clear c7
            try clear c7b0
            try clear c13
            try clear q16
            try clear c17
            try clear c18
            try clear p18
            try clear q18
            try clear hx18
            try clear hcz14_0
            try clear hcz14_1
            try clear hcz14_2
            try clear hcz14_3
            try clear hcz14_4
            try clear hcz15_0
            try clear hcz15_1
            try clear hcz15_2
            try clear hcz15_3
            try clear hcz15_4
            try clear hcz19_0
            try clear hcz19_1
            try clear hcz19_2
            try clear hcz19_3
            try clear hcz19_4
            try clear hcz20_0
            try clear hcz20_1
            try clear hcz20_2
            try clear hcz20_3
            try clear hcz20_4
            try clear hfz14_0
            try clear hfz14_1
            try clear hfz14_2
            try clear hfz14_3
            try clear hfz14_4
            try clear hfz15_0
            try clear hfz15_1
            try clear hfz15_2
            try clear hfz15_3
            try clear hfz15_4
            try clear hfz19_0
            try clear hfz19_1
            try clear hfz19_2
            try clear hfz19_3
            try clear hfz19_4
            try clear hfz20_0
            try clear hfz20_1
            try clear hfz20_2
            try clear hfz20_3
            try clear hfz20_4
            try clear hx185_0
            try clear hx185_1
            try clear hx185_2
            try clear hx185_3
            try clear hx185_4
            try clear p185
            try clear p2
            try clear q185
            obtain ⟨kq, x184000_7, x184001_7, x184002_7, x184003_7, x184004_7, x185000_7, x185001_7, x185002_7, x185003_7, x185004_7, HA, HJ7, BK183, BK184, HB⟩ := hcut
            cases kq with
            | zero => exact absurd HA.out (by simp [stencilref13_ahead.j1])
            | succ kj7 =>
              have H := HA.out
              clear HA
              simp only [stencilref13_ahead.j1] at H
              by_cases c21 : 0 ≤ x7_1
              · rw [if_pos c21] at H
                have c21b0 : decide (0 ≤ x7_1) = true := decide_eq_true c21
                clear c21
                by_cases c22 : x7_1 < (l0.length : Int)
                · rw [if_pos c22] at H
                  have c22b0 : decide (x7_1 < (l0.length : Int)) = true := decide_eq_true c22
                  clear c22
                  obtain ⟨bq23, hbq23⟩ : ∃ b_ : Bool, b_ = ((rd_T55 l0 x7_1).f0) := ⟨_, rfl⟩
                  replace H : (if bq23 = true then ((stencilref02_Less.f x184003_7 x184004_7 x185003_7 x185004_7).bind fun t187 => (if t187 = true then (some true) else ((stencilref02_Less.f x185003_7 x185004_7 x184003_7 x184004_7).bind fun t188 => (if t188 = true then (some false) else (stencilref13_ahead.l0 kj7 l0 l1 l2 (wrap64 (x7_1 + 1))))))) else (if x184002_7.toList = x185002_7.toList then (stencilref13_ahead.l0 kj7 l0 l1 l2 (wrap64 (x7_1 + 1))) else (some (Op.bytesLess x184002_7.toList x185002_7.toList)))) = some r := by rw [← hbq23] at H; exact H
                  have Nbq23 := Aside0.mk hbq23
                  clear hbq23
                  by_cases c24 : bq23 = true
                  · subst c24
                    have H1 : ((stencilref02_Less.f x184003_7 x184004_7 x185003_7 x185004_7).bind fun t187 => (if t187 = true then (some true) else ((stencilref02_Less.f x185003_7 x185004_7 x184003_7 x184004_7).bind fun t188 => (if t188 = true then (some false) else (stencilref13_ahead.l0 kj7 l0 l1 l2 (wrap64 (x7_1 + 1))))))) = some r := by rw [if_pos rfl] at H; exact H
                    clear H
                    have H := H1
                    clear H1
                    replace H := Option.bind_eq_some_iff.mp H
                    obtain ⟨t187, A250, H⟩ := H
                    replace H : (if t187 = true then (some true) else ((stencilref02_Less.f x185003_7 x185004_7 x184003_7 x184004_7).bind fun t188 => (if t188 = true then (some false) else (stencilref13_ahead.l0 kj7 l0 l1 l2 (wrap64 (x7_1 + 1)))))) = some r := H
                    have A25 := Aside0.mk A250
                    clear A250
                    by_cases c26 : t187 = true
                    · subst c26
                      have H1 : (some true) = some r := by rw [if_pos rfl] at H; exact H
                      clear H
                      have H := H1
                      clear H1
                      obtain rfl := Option.some.inj H
                      have p186 : 0 ≤ (x7_1 : Int) := of_decide_eq_true (by first | (with_reducible assumption) | assumption)
                      have q186 : x7_1 < (l0.length : Int) := of_decide_eq_true (by first | (with_reducible assumption) | assumption)
                      obtain ⟨ad186, e186, hx186_0, hx186_1, hx186_2, hx186_3, hx186_4⟩ := at_T55 HR0.out x7_1 p186 q186
                      (try rw [← Nbq23.out] at hx186_0)
                      (try rw [← Nbq23.out] at hx186_1)
                      obtain rfl : ad185 = ad186 := (by injection e186)
                      replace hx186_0 := (HB.out.cell (World.block_lt_of_cell? w _ hx186_0)).trans hx186_0
                      replace hx186_1 := (HB.out.cell (World.block_lt_of_cell? w _ hx186_1)).trans hx186_1
                      replace hx186_2 := (HB.out.cell (World.block_lt_of_cell? w _ hx186_2)).trans hx186_2
                      replace hx186_3 := (HB.out.cell (World.block_lt_of_cell? w _ hx186_3)).trans hx186_3
                      replace hx186_4 := (HB.out.cell (World.block_lt_of_cell? w _ hx186_4)).trans hx186_4
                      replace p186 := eq_true p186
                      replace q186 := eq_true q186
                      have hnb27 := NB183_184.out
                      have hnc27 := NB184_183.out
                      have hcz28_0 : wc.cell? ⟨gb183, 0, none⟩ = some (.bool x184000_7) := (blk_cell BK183.out 0).trans rfl
                      have hcz28_1 : wc.cell? ⟨gb183, 1, none⟩ = some (.bool x184001_7) := (blk_cell BK183.out 1).trans rfl
                      have hcz28_2 : wc.cell? ⟨gb183, 2, none⟩ = some (.string x184002_7) := (blk_cell BK183.out 2).trans rfl
                      have hcz28_3 : wc.cell? ⟨gb183, 3, none⟩ = some (.int .i64 x184003_7) := (blk_cell BK183.out 3).trans rfl
                      have hcz28_4 : wc.cell? ⟨gb183, 4, none⟩ = some (.int .i64 x184004_7) := (blk_cell BK183.out 4).trans rfl
                      have hfz28_0 := blk_frozen BK183.out 0
                      have hfz28_1 := blk_frozen BK183.out 1
                      have hfz28_2 := blk_frozen BK183.out 2
                      have hfz28_3 := blk_frozen BK183.out 3
                      have hfz28_4 := blk_frozen BK183.out 4
                      have hcz29_0 : wc.cell? ⟨gb184, 0, none⟩ = some (.bool x185000_7) := (blk_cell BK184.out 0).trans rfl
                      have hcz29_1 : wc.cell? ⟨gb184, 1, none⟩ = some (.bool x185001_7) := (blk_cell BK184.out 1).trans rfl
                      have hcz29_2 : wc.cell? ⟨gb184, 2, none⟩ = some (.string x185002_7) := (blk_cell BK184.out 2).trans rfl
                      have hcz29_3 : wc.cell? ⟨gb184, 3, none⟩ = some (.int .i64 x185003_7) := (blk_cell BK184.out 3).trans rfl
                      have hcz29_4 : wc.cell? ⟨gb184, 4, none⟩ = some (.int .i64 x185004_7) := (blk_cell BK184.out 4).trans rfl
                      have hfz29_0 := blk_frozen BK184.out 0
                      have hfz29_1 := blk_frozen BK184.out 1
                      have hfz29_2 := blk_frozen BK184.out 2
                      have hfz29_3 := blk_frozen BK184.out 3
                      have hfz29_4 := blk_frozen BK184.out 4
                      go_wp2_with (first | ((with_reducible refine gate_callee (f := 50) rfl ?_); refine goesL_ (some 38) rfl rfl Tryd.func50 (by kernel_rfl) rfl #[.agg #[.int .i64 x184003_7, .int .i64 x184004_7], .agg #[.int .i64 x185003_7, .int .i64 x185004_7]] rfl (by (try simp only [List.map_toArray, List.map_cons, List.map_nil]); first | done | rfl | (simp only [List.length_drop, List.length_take]; rfl)) ?_; (with_reducible refine (stencilref02_Less.calls x184003_7 x184004_7 x185003_7 x185004_7 true _ ?side1 A25.out).mono ?_); (case side1 => first | exact HLD | exact Laid.below HLD (by repeat (first | (with_reducible first | exact HB.out | apply below_alloc | apply pw_below_drewN | apply below_drew1 | refine below_set ?_ GE183.out | refine below_set ?_ GE184.out) | exact HB.out))); rintro e w30 ⟨rfl, hb⟩; refine ⟨_, rfl, ?_⟩; have n0_ := Aside0.mk (blk_below (g := gb183) (o := .cells #[.bool x184000_7, .bool x184001_7, .string x184002_7, .int .i64 x184003_7, .int .i64 x184004_7] 55 (0, 0)) (by (with_reducible repeat (first | refine blk_drewN ?_ _ | refine blk_drew ?_ | refine blk_alloc ?_ _)); exact BK183.out) hb); have n1_ := Aside0.mk (blk_below (g := gb184) (o := .cells #[.bool x185000_7, .bool x185001_7, .string x185002_7, .int .i64 x185003_7, .int .i64 x185004_7] 55 (0, 0)) (by (with_reducible repeat (first | refine blk_drewN ?_ _ | refine blk_drew ?_ | refine blk_alloc ?_ _)); exact BK184.out) hb); have n2_ := Aside0.mk (below_step (by repeat (first | (with_reducible first | exact HB.out | apply below_alloc | apply pw_below_drewN | apply below_drew1 | refine below_set ?_ GE183.out | refine below_set ?_ GE184.out) | exact HB.out)) hb); clear BK183; clear BK184; clear HB; have BK183 := n0_; have BK184 := n1_; have HB := n2_; clear n0_ n1_ n2_; (try clear hb); (try clear hb2); (try clear hk); (try clear hi)))
                      go_ret
                      exact ⟨by first | rfl | (simp [errW_none, errW_some] <;> rfl) | (simp [*, errW_none, errW_some] <;> rfl), by repeat (first | (with_reducible first | exact HB.out | apply below_alloc | apply pw_below_drewN | apply below_drew1 | refine below_set ?_ GE183.out | refine below_set ?_ GE184.out) | exact HB.out)⟩
                    · replace c26 := Bool.eq_false_iff.mpr c26
                      subst c26
                      have H1 : ((stencilref02_Less.f x185003_7 x185004_7 x184003_7 x184004_7).bind fun t188 => (if t188 = true then (some false) else (stencilref13_ahead.l0 kj7 l0 l1 l2 (wrap64 (x7_1 + 1))))) = some r := by rw [if_neg (show ¬ (false = true) by decide)] at H; exact H
                      clear H
                      have H := H1
                      clear H1
                      replace H := Option.bind_eq_some_iff.mp H
                      obtain ⟨t188, A310, H⟩ := H
                      replace H : (if t188 = true then (some false) else (stencilref13_ahead.l0 kj7 l0 l1 l2 (wrap64 (x7_1 + 1)))) = some r := H
                      have A31 := Aside0.mk A310
                      clear A310
                      by_cases c32 : t188 = true
                      · subst c32
                        have H1 : (some false) = some r := by rw [if_pos rfl] at H; exact H
                        clear H
                        have H := H1
                        clear H1
                        obtain rfl := Option.some.inj H
                        have p186 : 0 ≤ (x7_1 : Int) := of_decide_eq_true (by first | (with_reducible assumption) | assumption)
                        have q186 : x7_1 < (l0.length : Int) := of_decide_eq_true (by first | (with_reducible assumption) | assumption)
                        obtain ⟨ad186, e186, hx186_0, hx186_1, hx186_2, hx186_3, hx186_4⟩ := at_T55 HR0.out x7_1 p186 q186
                        (try rw [← Nbq23.out] at hx186_0)
                        (try rw [← Nbq23.out] at hx186_1)
                        obtain rfl : ad185 = ad186 := (by injection e186)
                        replace hx186_0 := (HB.out.cell (World.block_lt_of_cell? w _ hx186_0)).trans hx186_0
                        replace hx186_1 := (HB.out.cell (World.block_lt_of_cell? w _ hx186_1)).trans hx186_1
                        replace hx186_2 := (HB.out.cell (World.block_lt_of_cell? w _ hx186_2)).trans hx186_2
                        replace hx186_3 := (HB.out.cell (World.block_lt_of_cell? w _ hx186_3)).trans hx186_3
                        replace hx186_4 := (HB.out.cell (World.block_lt_of_cell? w _ hx186_4)).trans hx186_4
                        replace p186 := eq_true p186
                        replace q186 := eq_true q186
                        have hnb33 := NB183_184.out
                        have hnc33 := NB184_183.out
                        have hcz34_0 : wc.cell? ⟨gb183, 0, none⟩ = some (.bool x184000_7) := (blk_cell BK183.out 0).trans rfl
                        have hcz34_1 : wc.cell? ⟨gb183, 1, none⟩ = some (.bool x184001_7) := (blk_cell BK183.out 1).trans rfl
                        have hcz34_2 : wc.cell? ⟨gb183, 2, none⟩ = some (.string x184002_7) := (blk_cell BK183.out 2).trans rfl
                        have hcz34_3 : wc.cell? ⟨gb183, 3, none⟩ = some (.int .i64 x184003_7) := (blk_cell BK183.out 3).trans rfl
                        have hcz34_4 : wc.cell? ⟨gb183, 4, none⟩ = some (.int .i64 x184004_7) := (blk_cell BK183.out 4).trans rfl
                        have hfz34_0 := blk_frozen BK183.out 0
                        have hfz34_1 := blk_frozen BK183.out 1
                        have hfz34_2 := blk_frozen BK183.out 2
                        have hfz34_3 := blk_frozen BK183.out 3
                        have hfz34_4 := blk_frozen BK183.out 4
                        have hcz35_0 : wc.cell? ⟨gb184, 0, none⟩ = some (.bool x185000_7) := (blk_cell BK184.out 0).trans rfl
                        have hcz35_1 : wc.cell? ⟨gb184, 1, none⟩ = some (.bool x185001_7) := (blk_cell BK184.out 1).trans rfl
                        have hcz35_2 : wc.cell? ⟨gb184, 2, none⟩ = some (.string x185002_7) := (blk_cell BK184.out 2).trans rfl
                        have hcz35_3 : wc.cell? ⟨gb184, 3, none⟩ = some (.int .i64 x185003_7) := (blk_cell BK184.out 3).trans rfl
                        have hcz35_4 : wc.cell? ⟨gb184, 4, none⟩ = some (.int .i64 x185004_7) := (blk_cell BK184.out 4).trans rfl
                        have hfz35_0 := blk_frozen BK184.out 0
                        have hfz35_1 := blk_frozen BK184.out 1
                        have hfz35_2 := blk_frozen BK184.out 2
                        have hfz35_3 := blk_frozen BK184.out 3
                        have hfz35_4 := blk_frozen BK184.out 4
                        go_wp2_with (first | ((with_reducible refine gate_callee (f := 50) rfl ?_); refine goesL_ (some 38) rfl rfl Tryd.func50 (by kernel_rfl) rfl #[.agg #[.int .i64 x184003_7, .int .i64 x184004_7], .agg #[.int .i64 x185003_7, .int .i64 x185004_7]] rfl (by (try simp only [List.map_toArray, List.map_cons, List.map_nil]); first | done | rfl | (simp only [List.length_drop, List.length_take]; rfl)) ?_; (with_reducible refine (stencilref02_Less.calls x184003_7 x184004_7 x185003_7 x185004_7 false _ ?side1 A25.out).mono ?_); (case side1 => first | exact HLD | exact Laid.below HLD (by repeat (first | (with_reducible first | exact HB.out | apply below_alloc | apply pw_below_drewN | apply below_drew1 | refine below_set ?_ GE183.out | refine below_set ?_ GE184.out) | exact HB.out))); rintro e w36 ⟨rfl, hb⟩; refine ⟨_, rfl, ?_⟩; have n0_ := Aside0.mk (blk_below (g := gb183) (o := .cells #[.bool x184000_7, .bool x184001_7, .string x184002_7, .int .i64 x184003_7, .int .i64 x184004_7] 55 (0, 0)) (by (with_reducible repeat (first | refine blk_drewN ?_ _ | refine blk_drew ?_ | refine blk_alloc ?_ _)); exact BK183.out) hb); have n1_ := Aside0.mk (blk_below (g := gb184) (o := .cells #[.bool x185000_7, .bool x185001_7, .string x185002_7, .int .i64 x185003_7, .int .i64 x185004_7] 55 (0, 0)) (by (with_reducible repeat (first | refine blk_drewN ?_ _ | refine blk_drew ?_ | refine blk_alloc ?_ _)); exact BK184.out) hb); have n2_ := Aside0.mk (below_step (by repeat (first | (with_reducible first | exact HB.out | apply below_alloc | apply pw_below_drewN | apply below_drew1 | refine below_set ?_ GE183.out | refine below_set ?_ GE184.out) | exact HB.out)) hb); clear BK183; clear BK184; clear HB; have BK183 := n0_; have BK184 := n1_; have HB := n2_; clear n0_ n1_ n2_; (try clear hb); (try clear hb2); (try clear hk); (try clear hi); have hcz37_0 : w36.cell? ⟨gb184, 0, none⟩ = some (.bool x185000_7) := (blk_cell BK184.out 0).trans rfl; have hcz37_1 : w36.cell? ⟨gb184, 1, none⟩ = some (.bool x185001_7) := (blk_cell BK184.out 1).trans rfl; have hcz37_2 : w36.cell? ⟨gb184, 2, none⟩ = some (.string x185002_7) := (blk_cell BK184.out 2).trans rfl; have hcz37_3 : w36.cell? ⟨gb184, 3, none⟩ = some (.int .i64 x185003_7) := (blk_cell BK184.out 3).trans rfl; have hcz37_4 : w36.cell? ⟨gb184, 4, none⟩ = some (.int .i64 x185004_7) := (blk_cell BK184.out 4).trans rfl; have hfz37_0 := blk_frozen BK184.out 0; have hfz37_1 := blk_frozen BK184.out 1; have hfz37_2 := blk_frozen BK184.out 2; have hfz37_3 := blk_frozen BK184.out 3; have hfz37_4 := blk_frozen BK184.out 4; have hcz38_0 : w36.cell? ⟨gb183, 0, none⟩ = some (.bool x184000_7) := (blk_cell BK183.out 0).trans rfl; have hcz38_1 : w36.cell? ⟨gb183, 1, none⟩ = some (.bool x184001_7) := (blk_cell BK183.out 1).trans rfl; have hcz38_2 : w36.cell? ⟨gb183, 2, none⟩ = some (.string x184002_7) := (blk_cell BK183.out 2).trans rfl; have hcz38_3 : w36.cell? ⟨gb183, 3, none⟩ = some (.int .i64 x184003_7) := (blk_cell BK183.out 3).trans rfl; have hcz38_4 : w36.cell? ⟨gb183, 4, none⟩ = some (.int .i64 x184004_7) := (blk_cell BK183.out 4).trans rfl; have hfz38_0 := blk_frozen BK183.out 0; have hfz38_1 := blk_frozen BK183.out 1; have hfz38_2 := blk_frozen BK183.out 2; have hfz38_3 := blk_frozen BK183.out 3; have hfz38_4 := blk_frozen BK183.out 4) | ((with_reducible refine gate_callee (f := 50) rfl ?_); refine goesL_ (some 43) rfl rfl Tryd.func50 (by kernel_rfl) rfl #[.agg #[.int .i64 x185003_7, .int .i64 x185004_7], .agg #[.int .i64 x184003_7, .int .i64 x184004_7]] rfl (by (try simp only [List.map_toArray, List.map_cons, List.map_nil]); first | done | rfl | (simp only [List.length_drop, List.length_take]; rfl)) ?_; (with_reducible refine (stencilref02_Less.calls x185003_7 x185004_7 x184003_7 x184004_7 true _ ?side1 A31.out).mono ?_); (case side1 => first | exact HLD | exact Laid.below HLD (by repeat (first | (with_reducible first | exact HB.out | apply below_alloc | apply pw_below_drewN | apply below_drew1 | refine below_set ?_ GE183.out | refine below_set ?_ GE184.out) | exact HB.out))); rintro e w39 ⟨rfl, hb⟩; refine ⟨_, rfl, ?_⟩; have n0_ := Aside0.mk (blk_below (g := gb183) (o := .cells #[.bool x184000_7, .bool x184001_7, .string x184002_7, .int .i64 x184003_7, .int .i64 x184004_7] 55 (0, 0)) (by (with_reducible repeat (first | refine blk_drewN ?_ _ | refine blk_drew ?_ | refine blk_alloc ?_ _)); exact BK183.out) hb); have n1_ := Aside0.mk (blk_below (g := gb184) (o := .cells #[.bool x185000_7, .bool x185001_7, .string x185002_7, .int .i64 x185003_7, .int .i64 x185004_7] 55 (0, 0)) (by (with_reducible repeat (first | refine blk_drewN ?_ _ | refine blk_drew ?_ | refine blk_alloc ?_ _)); exact BK184.out) hb); have n2_ := Aside0.mk (below_step (by repeat (first | (with_reducible first | exact HB.out | apply below_alloc | apply pw_below_drewN | apply below_drew1 | refine below_set ?_ GE183.out | refine below_set ?_ GE184.out) | exact HB.out)) hb); clear BK183; clear BK184; clear HB; have BK183 := n0_; have BK184 := n1_; have HB := n2_; clear n0_ n1_ n2_; (try clear hb); (try clear hb2); (try clear hk); (try clear hi)))
                        go_ret
                        exact ⟨by first | rfl | (simp [errW_none, errW_some] <;> rfl) | (simp [*, errW_none, errW_some] <;> rfl), by repeat (first | (with_reducible first | exact HB.out | apply below_alloc | apply pw_below_drewN | apply below_drew1 | refine below_set ?_ GE183.out | refine below_set ?_ GE184.out) | exact HB.out)⟩
                      · replace c32 := Bool.eq_false_iff.mpr c32
                        subst c32
                        have H1 : (stencilref13_ahead.l0 kj7 l0 l1 l2 (wrap64 (x7_1 + 1))) = some r := by rw [if_neg (show ¬ (false = true) by decide)] at H; exact H
                        clear H
                        have H := H1
                        clear H1
                        have H' := Aside0.mk H
                        clear H
                        have p186 : 0 ≤ (x7_1 : Int) := of_decide_eq_true (by first | (with_reducible assumption) | assumption)
                        have q186 : x7_1 < (l0.length : Int) := of_decide_eq_true (by first | (with_reducible assumption) | assumption)
                        obtain ⟨ad186, e186, hx186_0, hx186_1, hx186_2, hx186_3, hx186_4⟩ := at_T55 HR0.out x7_1 p186 q186
                        (try rw [← Nbq23.out] at hx186_0)
                        (try rw [← Nbq23.out] at hx186_1)
                        obtain rfl : ad185 = ad186 := (by injection e186)
                        replace hx186_0 := (HB.out.cell (World.block_lt_of_cell? w _ hx186_0)).trans hx186_0
                        replace hx186_1 := (HB.out.cell (World.block_lt_of_cell? w _ hx186_1)).trans hx186_1
                        replace hx186_2 := (HB.out.cell (World.block_lt_of_cell? w _ hx186_2)).trans hx186_2
                        replace hx186_3 := (HB.out.cell (World.block_lt_of_cell? w _ hx186_3)).trans hx186_3
                        replace hx186_4 := (HB.out.cell (World.block_lt_of_cell? w _ hx186_4)).trans hx186_4
                        replace p186 := eq_true p186
                        replace q186 := eq_true q186
                        have hnb40 := NB183_184.out
                        have hnc40 := NB184_183.out
                        have hcz41_0 : wc.cell? ⟨gb183, 0, none⟩ = some (.bool x184000_7) := (blk_cell BK183.out 0).trans rfl
                        have hcz41_1 : wc.cell? ⟨gb183, 1, none⟩ = some (.bool x184001_7) := (blk_cell BK183.out 1).trans rfl
                        have hcz41_2 : wc.cell? ⟨gb183, 2, none⟩ = some (.string x184002_7) := (blk_cell BK183.out 2).trans rfl
                        have hcz41_3 : wc.cell? ⟨gb183, 3, none⟩ = some (.int .i64 x184003_7) := (blk_cell BK183.out 3).trans rfl
                        have hcz41_4 : wc.cell? ⟨gb183, 4, none⟩ = some (.int .i64 x184004_7) := (blk_cell BK183.out 4).trans rfl
                        have hfz41_0 := blk_frozen BK183.out 0
                        have hfz41_1 := blk_frozen BK183.out 1
                        have hfz41_2 := blk_frozen BK183.out 2
                        have hfz41_3 := blk_frozen BK183.out 3
                        have hfz41_4 := blk_frozen BK183.out 4
                        have hcz42_0 : wc.cell? ⟨gb184, 0, none⟩ = some (.bool x185000_7) := (blk_cell BK184.out 0).trans rfl
                        have hcz42_1 : wc.cell? ⟨gb184, 1, none⟩ = some (.bool x185001_7) := (blk_cell BK184.out 1).trans rfl
                        have hcz42_2 : wc.cell? ⟨gb184, 2, none⟩ = some (.string x185002_7) := (blk_cell BK184.out 2).trans rfl
                        have hcz42_3 : wc.cell? ⟨gb184, 3, none⟩ = some (.int .i64 x185003_7) := (blk_cell BK184.out 3).trans rfl
                        have hcz42_4 : wc.cell? ⟨gb184, 4, none⟩ = some (.int .i64 x185004_7) := (blk_cell BK184.out 4).trans rfl
                        have hfz42_0 := blk_frozen BK184.out 0
                        have hfz42_1 := blk_frozen BK184.out 1
                        have hfz42_2 := blk_frozen BK184.out 2
                        have hfz42_3 := blk_frozen BK184.out 3
                        have hfz42_4 := blk_frozen BK184.out 4
                        go_wp2_with (first | ((with_reducible refine gate_callee (f := 50) rfl ?_); refine goesL_ (some 38) rfl rfl Tryd.func50 (by kernel_rfl) rfl #[.agg #[.int .i64 x184003_7, .int .i64 x184004_7], .agg #[.int .i64 x185003_7, .int .i64 x185004_7]] rfl (by (try simp only [List.map_toArray, List.map_cons, List.map_nil]); first | done | rfl | (simp only [List.length_drop, List.length_take]; rfl)) ?_; (with_reducible refine (stencilref02_Less.calls x184003_7 x184004_7 x185003_7 x185004_7 false _ ?side1 A25.out).mono ?_); (case side1 => first | exact HLD | exact Laid.below HLD (by repeat (first | (with_reducible first | exact HB.out | apply below_alloc | apply pw_below_drewN | apply below_drew1 | refine below_set ?_ GE183.out | refine below_set ?_ GE184.out) | exact HB.out))); rintro e w43 ⟨rfl, hb⟩; refine ⟨_, rfl, ?_⟩; have n0_ := Aside0.mk (blk_below (g := gb183) (o := .cells #[.bool x184000_7, .bool x184001_7, .string x184002_7, .int .i64 x184003_7, .int .i64 x184004_7] 55 (0, 0)) (by (with_reducible repeat (first | refine blk_drewN ?_ _ | refine blk_drew ?_ | refine blk_alloc ?_ _)); exact BK183.out) hb); have n1_ := Aside0.mk (blk_below (g := gb184) (o := .cells #[.bool x185000_7, .bool x185001_7, .string x185002_7, .int .i64 x185003_7, .int .i64 x185004_7] 55 (0, 0)) (by (with_reducible repeat (first | refine blk_drewN ?_ _ | refine blk_drew ?_ | refine blk_alloc ?_ _)); exact BK184.out) hb); have n2_ := Aside0.mk (below_step (by repeat (first | (with_reducible first | exact HB.out | apply below_alloc | apply pw_below_drewN | apply below_drew1 | refine below_set ?_ GE183.out | refine below_set ?_ GE184.out) | exact HB.out)) hb); clear BK183; clear BK184; clear HB; have BK183 := n0_; have BK184 := n1_; have HB := n2_; clear n0_ n1_ n2_; (try clear hb); (try clear hb2); (try clear hk); (try clear hi); have hcz44_0 : w43.cell? ⟨gb184, 0, none⟩ = some (.bool x185000_7) := (blk_cell BK184.out 0).trans rfl; have hcz44_1 : w43.cell? ⟨gb184, 1, none⟩ = some (.bool x185001_7) := (blk_cell BK184.out 1).trans rfl; have hcz44_2 : w43.cell? ⟨gb184, 2, none⟩ = some (.string x185002_7) := (blk_cell BK184.out 2).trans rfl; have hcz44_3 : w43.cell? ⟨gb184, 3, none⟩ = some (.int .i64 x185003_7) := (blk_cell BK184.out 3).trans rfl; have hcz44_4 : w43.cell? ⟨gb184, 4, none⟩ = some (.int .i64 x185004_7) := (blk_cell BK184.out 4).trans rfl; have hfz44_0 := blk_frozen BK184.out 0; have hfz44_1 := blk_frozen BK184.out 1; have hfz44_2 := blk_frozen BK184.out 2; have hfz44_3 := blk_frozen BK184.out 3; have hfz44_4 := blk_frozen BK184.out 4; have hcz45_0 : w43.cell? ⟨gb183, 0, none⟩ = some (.bool x184000_7) := (blk_cell BK183.out 0).trans rfl; have hcz45_1 : w43.cell? ⟨gb183, 1, none⟩ = some (.bool x184001_7) := (blk_cell BK183.out 1).trans rfl; have hcz45_2 : w43.cell? ⟨gb183, 2, none⟩ = some (.string x184002_7) := (blk_cell BK183.out 2).trans rfl; have hcz45_3 : w43.cell? ⟨gb183, 3, none⟩ = some (.int .i64 x184003_7) := (blk_cell BK183.out 3).trans rfl; have hcz45_4 : w43.cell? ⟨gb183, 4, none⟩ = some (.int .i64 x184004_7) := (blk_cell BK183.out 4).trans rfl; have hfz45_0 := blk_frozen BK183.out 0; have hfz45_1 := blk_frozen BK183.out 1; have hfz45_2 := blk_frozen BK183.out 2; have hfz45_3 := blk_frozen BK183.out 3; have hfz45_4 := blk_frozen BK183.out 4) | ((with_reducible refine gate_callee (f := 50) rfl ?_); refine goesL_ (some 43) rfl rfl Tryd.func50 (by kernel_rfl) rfl #[.agg #[.int .i64 x185003_7, .int .i64 x185004_7], .agg #[.int .i64 x184003_7, .int .i64 x184004_7]] rfl (by (try simp only [List.map_toArray, List.map_cons, List.map_nil]); first | done | rfl | (simp only [List.length_drop, List.length_take]; rfl)) ?_; (with_reducible refine (stencilref02_Less.calls x185003_7 x185004_7 x184003_7 x184004_7 false _ ?side1 A31.out).mono ?_); (case side1 => first | exact HLD | exact Laid.below HLD (by repeat (first | (with_reducible first | exact HB.out | apply below_alloc | apply pw_below_drewN | apply below_drew1 | refine below_set ?_ GE183.out | refine below_set ?_ GE184.out) | exact HB.out))); rintro e w46 ⟨rfl, hb⟩; refine ⟨_, rfl, ?_⟩; have n0_ := Aside0.mk (blk_below (g := gb183) (o := .cells #[.bool x184000_7, .bool x184001_7, .string x184002_7, .int .i64 x184003_7, .int .i64 x184004_7] 55 (0, 0)) (by (with_reducible repeat (first | refine blk_drewN ?_ _ | refine blk_drew ?_ | refine blk_alloc ?_ _)); exact BK183.out) hb); have n1_ := Aside0.mk (blk_below (g := gb184) (o := .cells #[.bool x185000_7, .bool x185001_7, .string x185002_7, .int .i64 x185003_7, .int .i64 x185004_7] 55 (0, 0)) (by (with_reducible repeat (first | refine blk_drewN ?_ _ | refine blk_drew ?_ | refine blk_alloc ?_ _)); exact BK184.out) hb); have n2_ := Aside0.mk (below_step (by repeat (first | (with_reducible first | exact HB.out | apply below_alloc | apply pw_below_drewN | apply below_drew1 | refine below_set ?_ GE183.out | refine below_set ?_ GE184.out) | exact HB.out)) hb); clear BK183; clear BK184; clear HB; have BK183 := n0_; have BK184 := n1_; have HB := n2_; clear n0_ n1_ n2_; (try clear hb); (try clear hb2); (try clear hk); (try clear hi)))
                        go_roundg kj7
                        case measure => have := HK1.out; have := HJ7.out; omega
                        case rel => exact ⟨(wrap64 (x7_1 + 1)), (by first | rfl | (simp; done) | (simp [*]; done)), H', ⟨by have := HK1.out; have := HJ7.out; omega⟩, ⟨by repeat (first | (with_reducible first | exact HB.out | apply below_alloc | apply pw_below_drewN | apply below_drew1 | refine below_set ?_ GE183.out | refine below_set ?_ GE184.out) | exact HB.out)⟩⟩
                  · replace c24 := Bool.eq_false_iff.mpr c24
                    subst c24
                    have H1 : (if x184002_7.toList = x185002_7.toList then (stencilref13_ahead.l0 kj7 l0 l1 l2 (wrap64 (x7_1 + 1))) else (some (Op.bytesLess x184002_7.toList x185002_7.toList))) = some r := by rw [if_neg (show ¬ (false = true) by decide)] at H; exact H
                    clear H
                    have H := H1
                    clear H1
                    by_cases c47 : x184002_7.toList = x185002_7.toList
                    · rw [if_pos c47] at H
                      have c47b0 : (x184002_7.toList == x185002_7.toList) = true := beq_iff_eq.mpr c47
                      have c47b1 : (x184002_7.toList != x185002_7.toList) = false := bne_eq_false_iff_eq.mpr c47
                      clear c47
                      have H' := Aside0.mk H
                      clear H
                      have p186 : 0 ≤ (x7_1 : Int) := of_decide_eq_true (by first | (with_reducible assumption) | assumption)
                      have q186 : x7_1 < (l0.length : Int) := of_decide_eq_true (by first | (with_reducible assumption) | assumption)
                      obtain ⟨ad186, e186, hx186_0, hx186_1, hx186_2, hx186_3, hx186_4⟩ := at_T55 HR0.out x7_1 p186 q186
                      (try rw [← Nbq23.out] at hx186_0)
                      (try rw [← Nbq23.out] at hx186_1)
                      obtain rfl : ad185 = ad186 := (by injection e186)
                      replace hx186_0 := (HB.out.cell (World.block_lt_of_cell? w _ hx186_0)).trans hx186_0
                      replace hx186_1 := (HB.out.cell (World.block_lt_of_cell? w _ hx186_1)).trans hx186_1
                      replace hx186_2 := (HB.out.cell (World.block_lt_of_cell? w _ hx186_2)).trans hx186_2
                      replace hx186_3 := (HB.out.cell (World.block_lt_of_cell? w _ hx186_3)).trans hx186_3
                      replace hx186_4 := (HB.out.cell (World.block_lt_of_cell? w _ hx186_4)).trans hx186_4
                      replace p186 := eq_true p186
                      replace q186 := eq_true q186
                      have hnb48 := NB183_184.out
                      have hnc48 := NB184_183.out
                      have hcz49_0 : wc.cell? ⟨gb183, 0, none⟩ = some (.bool x184000_7) := (blk_cell BK183.out 0).trans rfl
                      have hcz49_1 : wc.cell? ⟨gb183, 1, none⟩ = some (.bool x184001_7) := (blk_cell BK183.out 1).trans rfl
                      have hcz49_2 : wc.cell? ⟨gb183, 2, none⟩ = some (.string x184002_7) := (blk_cell BK183.out 2).trans rfl
                      have hcz49_3 : wc.cell? ⟨gb183, 3, none⟩ = some (.int .i64 x184003_7) := (blk_cell BK183.out 3).trans rfl
                      have hcz49_4 : wc.cell? ⟨gb183, 4, none⟩ = some (.int .i64 x184004_7) := (blk_cell BK183.out 4).trans rfl
                      have hfz49_0 := blk_frozen BK183.out 0
                      have hfz49_1 := blk_frozen BK183.out 1
                      have hfz49_2 := blk_frozen BK183.out 2
                      have hfz49_3 := blk_frozen BK183.out 3
                      have hfz49_4 := blk_frozen BK183.out 4
                      have hcz50_0 : wc.cell? ⟨gb184, 0, none⟩ = some (.bool x185000_7) := (blk_cell BK184.out 0).trans rfl
                      have hcz50_1 : wc.cell? ⟨gb184, 1, none⟩ = some (.bool x185001_7) := (blk_cell BK184.out 1).trans rfl
                      have hcz50_2 : wc.cell? ⟨gb184, 2, none⟩ = some (.string x185002_7) := (blk_cell BK184.out 2).trans rfl
                      have hcz50_3 : wc.cell? ⟨gb184, 3, none⟩ = some (.int .i64 x185003_7) := (blk_cell BK184.out 3).trans rfl
                      have hcz50_4 : wc.cell? ⟨gb184, 4, none⟩ = some (.int .i64 x185004_7) := (blk_cell BK184.out 4).trans rfl
                      have hfz50_0 := blk_frozen BK184.out 0
                      have hfz50_1 := blk_frozen BK184.out 1
                      have hfz50_2 := blk_frozen BK184.out 2
                      have hfz50_3 := blk_frozen BK184.out 3
                      have hfz50_4 := blk_frozen BK184.out 4
                      go_wp2
                      go_roundg kj7
                      case measure => have := HK1.out; have := HJ7.out; omega
                      case rel => exact ⟨(wrap64 (x7_1 + 1)), (by first | rfl | (simp; done) | (simp [*]; done)), H', ⟨by have := HK1.out; have := HJ7.out; omega⟩, ⟨by repeat (first | (with_reducible first | exact HB.out | apply below_alloc | apply pw_below_drewN | apply below_drew1 | refine below_set ?_ GE183.out | refine below_set ?_ GE184.out) | exact HB.out)⟩⟩
                    · rw [if_neg c47] at H
                      have c47b0 : (x184002_7.toList == x185002_7.toList) = false := beq_eq_false_iff_ne.mpr c47
                      have c47b1 : (x184002_7.toList != x185002_7.toList) = true := bne_iff_ne.mpr c47
                      obtain rfl := Option.some.inj H
                      have p186 : 0 ≤ (x7_1 : Int) := of_decide_eq_true (by first | (with_reducible assumption) | assumption)
                      have q186 : x7_1 < (l0.length : Int) := of_decide_eq_true (by first | (with_reducible assumption) | assumption)
                      obtain ⟨ad186, e186, hx186_0, hx186_1, hx186_2, hx186_3, hx186_4⟩ := at_T55 HR0.out x7_1 p186 q186
                      (try rw [← Nbq23.out] at hx186_0)
                      (try rw [← Nbq23.out] at hx186_1)
                      obtain rfl : ad185 = ad186 := (by injection e186)
                      replace hx186_0 := (HB.out.cell (World.block_lt_of_cell? w _ hx186_0)).trans hx186_0
                      replace hx186_1 := (HB.out.cell (World.block_lt_of_cell? w _ hx186_1)).trans hx186_1
                      replace hx186_2 := (HB.out.cell (World.block_lt_of_cell? w _ hx186_2)).trans hx186_2
                      replace hx186_3 := (HB.out.cell (World.block_lt_of_cell? w _ hx186_3)).trans hx186_3
                      replace hx186_4 := (HB.out.cell (World.block_lt_of_cell? w _ hx186_4)).trans hx186_4
                      replace p186 := eq_true p186
                      replace q186 := eq_true q186
                      have hnb51 := NB183_184.out
                      have hnc51 := NB184_183.out
                      have hcz52_0 : wc.cell? ⟨gb183, 0, none⟩ = some (.bool x184000_7) := (blk_cell BK183.out 0).trans rfl
                      have hcz52_1 : wc.cell? ⟨gb183, 1, none⟩ = some (.bool x184001_7) := (blk_cell BK183.out 1).trans rfl
                      have hcz52_2 : wc.cell? ⟨gb183, 2, none⟩ = some (.string x184002_7) := (blk_cell BK183.out 2).trans rfl
                      have hcz52_3 : wc.cell? ⟨gb183, 3, none⟩ = some (.int .i64 x184003_7) := (blk_cell BK183.out 3).trans rfl
                      have hcz52_4 : wc.cell? ⟨gb183, 4, none⟩ = some (.int .i64 x184004_7) := (blk_cell BK183.out 4).trans rfl
                      have hfz52_0 := blk_frozen BK183.out 0
                      have hfz52_1 := blk_frozen BK183.out 1
                      have hfz52_2 := blk_frozen BK183.out 2
                      have hfz52_3 := blk_frozen BK183.out 3
                      have hfz52_4 := blk_frozen BK183.out 4
                      have hcz53_0 : wc.cell? ⟨gb184, 0, none⟩ = some (.bool x185000_7) := (blk_cell BK184.out 0).trans rfl
                      have hcz53_1 : wc.cell? ⟨gb184, 1, none⟩ = some (.bool x185001_7) := (blk_cell BK184.out 1).trans rfl
                      have hcz53_2 : wc.cell? ⟨gb184, 2, none⟩ = some (.string x185002_7) := (blk_cell BK184.out 2).trans rfl
                      have hcz53_3 : wc.cell? ⟨gb184, 3, none⟩ = some (.int .i64 x185003_7) := (blk_cell BK184.out 3).trans rfl
                      have hcz53_4 : wc.cell? ⟨gb184, 4, none⟩ = some (.int .i64 x185004_7) := (blk_cell BK184.out 4).trans rfl
                      have hfz53_0 := blk_frozen BK184.out 0
                      have hfz53_1 := blk_frozen BK184.out 1
                      have hfz53_2 := blk_frozen BK184.out 2
                      have hfz53_3 := blk_frozen BK184.out 3
                      have hfz53_4 := blk_frozen BK184.out 4
                      go_wp2
                      go_ret
                      exact ⟨by first | rfl | (simp [errW_none, errW_some] <;> rfl) | (simp [*, errW_none, errW_some] <;> rfl), by repeat (first | (with_reducible first | exact HB.out | apply below_alloc | apply pw_below_drewN | apply below_drew1 | refine below_set ?_ GE183.out | refine below_set ?_ GE184.out) | exact HB.out)⟩
                · rw [if_neg c22] at H
                  exact absurd H (by simp)
              · rw [if_neg c21] at H
                exact absurd H (by simp)
        · rw [if_neg c7] at H
          exact absurd H (by simp)
      · rw [if_neg c4] at H
        have c4b0 : decide (x7_1 < (l0.length : Int)) = false := decide_eq_false c4
        clear c4
        obtain rfl := Option.some.inj H
        go_wp2
        go_ret
        exact ⟨by first | rfl | (simp [errW_none, errW_some] <;> rfl) | (simp [*, errW_none, errW_some] <;> rfl), by repeat (first | (with_reducible first | exact HB.out | apply below_alloc | apply pw_below_drewN | apply below_drew1) | exact HB.out)⟩

end Go.Proofs.YthedigbdkjcpfaaDoor.Print
