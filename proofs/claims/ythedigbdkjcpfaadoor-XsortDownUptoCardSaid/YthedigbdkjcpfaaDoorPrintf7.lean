-- Laid by xprint.py (ours), out of the seat's translation; Lean checks it.
import Derived.Test.YthedigbdkjcpfaaDoorPrint0
import Derived.Test.YthedigbdkjcpfaaDoorPrintf10
import Derived.Test.YthedigbdkjcpfaaDoorPrintxsortorder
namespace Go.Proofs.YthedigbdkjcpfaaDoor.Print
open Go.RowKit Go.Proofs.YthedigbdkjcpfaaDoorW.PrintWords Go.Proofs.YthedigbdkjcpfaaDoorW.PrintLast Go.Proofs.YthedigbdkjcpfaaDoorW.PrintMore
attribute [local go_sem] max2_int min2_int max_two min_two max_three min_three max_four min_four   -- for this text's walks alone
open Go.Proofs.YthedigbdkjcpfaaDoor.Plain
set_option linter.unusedVariables false
set_option linter.unusedSimpArgs false

/-! ### stencillaw13_XsortDown: function 7 -/
mutual
def stencillaw13_XsortDown.j1 : Nat → List (List (S41)) → Option (Bool)
  | 0, _ => none
  | k + 1, x3 => (xsort_Order.f k x3).bind fun t141 => (if (t141.length : Int) = (x3.length : Int) then (stencillaw13_XsortDown.l1 k x3 t141 1) else (some false))
def stencillaw13_XsortDown.l1 : Nat → List (List (S41)) → List Int → Int → Option (Bool)
  | 0, _, _, _ => none
  | k + 1, x3, x5, x6 => if x6 < (x5.length : Int) then (if 0 ≤ (wrap64 (x6 - 1)) then (if (wrap64 (x6 - 1)) < (x5.length : Int) then (if 0 ≤ (rd x5 (wrap64 (x6 - 1))) then (if (rd x5 (wrap64 (x6 - 1))) < (x3.length : Int) then (if 0 < ((rd_L5 x3 (rd x5 (wrap64 (x6 - 1)))).length : Int) then (if 0 ≤ x6 then (if 0 ≤ (rd x5 x6) then (if (rd x5 x6) < (x3.length : Int) then (if 0 < ((rd_L5 x3 (rd x5 x6)).length : Int) then (if (Op.bytesLess (((rd_T41 (rd_L5 x3 (rd x5 (wrap64 (x6 - 1)))) 0).f2).toList) (((rd_T41 (rd_L5 x3 (rd x5 x6)) 0).f2).toList)) = true then (some false) else (if ((rd_T41 (rd_L5 x3 (rd x5 (wrap64 (x6 - 1)))) 0).f2).toList = ((rd_T41 (rd_L5 x3 (rd x5 x6)) 0).f2).toList then (if (rd x5 (wrap64 (x6 - 1))) > (rd x5 x6) then (some false) else (stencillaw13_XsortDown.l1 k x3 x5 (wrap64 (x6 + 1)))) else (stencillaw13_XsortDown.l1 k x3 x5 (wrap64 (x6 + 1))))) else (none)) else (none)) else (none)) else (none)) else (none)) else (none)) else (none)) else (none)) else (none)) else ((stencillaw13_live.f k).bind fun t152 => (some t152))
def stencillaw13_XsortDown.l0 : Nat → List ByteArray → List (List (S41)) → Int → Option (Bool)
  | 0, _, _, _ => none
  | k + 1, x0, x3, x4 => if x4 < (x0.length : Int) then (if x4 < 30 then (if 0 ≤ x4 then (if x3.length < 5864062014805 then (stencillaw13_XsortDown.l0 k x0 (x3 ++ [(([(⟨false, true, rdOf ByteArray.empty x0 x4, (⟨0, 0⟩ : S39)⟩ : S41)] : List (S41)))]) (wrap64 (x4 + 1))) else (none)) else (none)) else (stencillaw13_XsortDown.j1 k x3)) else (stencillaw13_XsortDown.j1 k x3)
end
def stencillaw13_XsortDown.f (k : Nat) (l0 : List ByteArray) : Option (Bool) := stencillaw13_XsortDown.l0 k l0 ([] : List (List (S41))) 0
theorem stencillaw13_XsortDown.mono_l : ∀ k, (∀ y0, LeO (stencillaw13_XsortDown.j1 k y0) (stencillaw13_XsortDown.j1 (k + 1) y0)) ∧ (∀ y0 y1 y2, LeO (stencillaw13_XsortDown.l1 k y0 y1 y2) (stencillaw13_XsortDown.l1 (k + 1) y0 y1 y2)) ∧ (∀ y0 y1 y2, LeO (stencillaw13_XsortDown.l0 k y0 y1 y2) (stencillaw13_XsortDown.l0 (k + 1) y0 y1 y2))
  | 0 => ⟨fun _ r h => by simp [stencillaw13_XsortDown.j1] at h, fun _ _ _ r h => by simp [stencillaw13_XsortDown.l1] at h, fun _ _ _ r h => by simp [stencillaw13_XsortDown.l0] at h⟩
  | k + 1 => by
    obtain ⟨ih0, ih1, ih2⟩ := stencillaw13_XsortDown.mono_l k
    refine ⟨?_, ?_, ?_⟩
    · intro y0
      unfold stencillaw13_XsortDown.j1
      repeat' first
      | (with_reducible exact ih0 _)
      | (with_reducible exact ih1 _ _ _)
      | (with_reducible exact ih2 _ _ _)
      | (with_reducible exact stencillaw13_live.mono _)
      | (with_reducible exact xsort_Order.mono _ _)
      | (with_reducible exact LeO.refl _)
      | (with_reducible exact LeO.none _)
      | (with_reducible refine LeO.ite ?_ ?_)
      | (with_reducible refine LeO.bind ?_ (fun _ => ?_))
      | exact ih0 _
      | exact ih1 _ _ _
      | exact ih2 _ _ _
      | exact stencillaw13_live.mono _
      | exact xsort_Order.mono _ _
      | exact LeO.none _
      | refine LeO.ite ?_ ?_
      | refine LeO.bind ?_ (fun _ => ?_)
    · intro y0 y1 y2
      unfold stencillaw13_XsortDown.l1
      repeat' first
      | (with_reducible exact ih0 _)
      | (with_reducible exact ih1 _ _ _)
      | (with_reducible exact ih2 _ _ _)
      | (with_reducible exact stencillaw13_live.mono _)
      | (with_reducible exact xsort_Order.mono _ _)
      | (with_reducible exact LeO.refl _)
      | (with_reducible exact LeO.none _)
      | (with_reducible refine LeO.ite ?_ ?_)
      | (with_reducible refine LeO.bind ?_ (fun _ => ?_))
      | exact ih0 _
      | exact ih1 _ _ _
      | exact ih2 _ _ _
      | exact stencillaw13_live.mono _
      | exact xsort_Order.mono _ _
      | exact LeO.none _
      | refine LeO.ite ?_ ?_
      | refine LeO.bind ?_ (fun _ => ?_)
    · intro y0 y1 y2
      unfold stencillaw13_XsortDown.l0
      repeat' first
      | (with_reducible exact ih0 _)
      | (with_reducible exact ih1 _ _ _)
      | (with_reducible exact ih2 _ _ _)
      | (with_reducible exact stencillaw13_live.mono _)
      | (with_reducible exact xsort_Order.mono _ _)
      | (with_reducible exact LeO.refl _)
      | (with_reducible exact LeO.none _)
      | (with_reducible refine LeO.ite ?_ ?_)
      | (with_reducible refine LeO.bind ?_ (fun _ => ?_))
      | exact ih0 _
      | exact ih1 _ _ _
      | exact ih2 _ _ _
      | exact stencillaw13_live.mono _
      | exact xsort_Order.mono _ _
      | exact LeO.none _
      | refine LeO.ite ?_ ?_
      | refine LeO.bind ?_ (fun _ => ?_)
theorem stencillaw13_XsortDown.mono : ∀ a0 k, LeO (stencillaw13_XsortDown.f k a0) (stencillaw13_XsortDown.f (k + 1) a0) := by
  intro a0 k
  obtain ⟨ih0, ih1, ih2⟩ := stencillaw13_XsortDown.mono_l k
  unfold stencillaw13_XsortDown.f
  repeat' first
      | (with_reducible exact ih0 _)
      | (with_reducible exact ih1 _ _ _)
      | (with_reducible exact ih2 _ _ _)
      | (with_reducible exact stencillaw13_live.mono _)
      | (with_reducible exact xsort_Order.mono _ _)
      | (with_reducible exact LeO.refl _)
      | (with_reducible exact LeO.none _)
      | (with_reducible refine LeO.ite ?_ ?_)
      | (with_reducible refine LeO.bind ?_ (fun _ => ?_))
      | exact ih0 _
      | exact ih1 _ _ _
      | exact ih2 _ _ _
      | exact stencillaw13_live.mono _
      | exact xsort_Order.mono _ _
      | exact LeO.none _
      | refine LeO.ite ?_ ?_
      | refine LeO.bind ?_ (fun _ => ?_)
set_option maxHeartbeats 8000000 in
set_option maxRecDepth 100000 in
theorem stencillaw13_XsortDown.calls (k : Nat) (A0 : Option Addr) (c0 : Nat) (l0 : List ByteArray) (r : Bool) (w : World) (hr0 : Kd.C Kd.string w A0 l0.length l0) (hc0 : l0.length ≤ c0) (HLD : Laid w) (h : stencillaw13_XsortDown.f k l0 = some r) :
    Calls Tryd.prog 7 #[.slice A0 l0.length c0] w fun e w' => e = .returned (.bool r) ∧ Below w.heap.size w w' := by
  have hu41 := Tryd.underlying41
  have HR0 := Aside0.mk hr0
  have HC0 := Aside0.mk hc0
  clear hr0 hc0
  have HB := Aside0.mk (Below.refl w.heap.size w)
  have H : (stencillaw13_XsortDown.l0 k l0 ([] : List (List (S41))) 0) = some r := h
  clear h
  have HC2 := Aside0.mk H
  clear H
  go_enter Tryd.func7, Tryd.ntmps7
  go_upto_block 0 with (fail)
  repeat (go_quiet (fail); go_upto_block 0 with (fail))
  go_cut [3] (fun v3 wc => ∃ (kq : Nat) (x3_1 : List (List (S41))), Aside0 (stencillaw13_XsortDown.j1 kq x3_1 = some r) ∧ Aside0 (kq ≤ k) ∧ Aside0 (Kd.S (Kd.slice 41 k41) 35 wc w.heap.size (fun _ => True) v3 x3_1) ∧ Aside0 (Below w.heap.size w wc))
  case first =>
    have H := HC2.out
    clear HC2
    have H' := Aside0.mk H
    clear H
    go_wp2
    repeat (go_quiet (fail); try go_wp2)
    go_loopg [3, 4] k (fun kq v3 v4 w' => ∃ (x3_1 : List (List (S41))) (x4_1 : Int), v4 = .int .i64 x4_1 ∧ Aside0 (stencillaw13_XsortDown.l0 kq l0 x3_1 x4_1 = some r) ∧ Aside0 (kq ≤ k) ∧ Aside0 (Kd.S (Kd.slice 41 k41) 35 w' w.heap.size (fun _ => True) v3 x3_1) ∧ Aside0 (Below w.heap.size w w'))
    case atStart => exact ⟨(([] : List (List (S41)))), (0), (by first | rfl | (simp; done) | (simp [*]; done)), H', ⟨Nat.le_refl _⟩, ⟨by first | exact Kd.S_nil _ _ _ _ _ | exact Kd.N_nil _ _ _ _ _ | exact Kd.V_nil _ _ _ _ _ | exact Kd.Q_nil _ _ _ _ _ | exact Kd.R_nil _ _ _ _ _⟩, ⟨by repeat (first | (with_reducible first | exact HB.out | apply below_alloc | apply pw_below_drewN | apply below_drew1) | exact HB.out)⟩⟩
    case round =>
      clear H'
      try clear p2
      obtain ⟨x3_1, x4_1, rfl, HA, HK1, HO_3, HB⟩ := hrel
      cases gk with
      | zero => exact absurd HA.out (by simp [stencillaw13_XsortDown.l0])
      | succ k1 =>
        have H := HA.out
        clear HA
        simp only [stencillaw13_XsortDown.l0] at H
        by_cases c3 : x4_1 < (l0.length : Int)
        · rw [if_pos c3] at H
          have c3b0 : decide (x4_1 < (l0.length : Int)) = true := decide_eq_true c3
          clear c3
          (first | rw [c3b0] | (simp only [i64_w, i32_w]; rw [c3b0]) | skip)
          by_cases c4 : x4_1 < 30
          · rw [if_pos c4] at H
            have c4b0 : decide (x4_1 < 30) = true := decide_eq_true c4
            clear c4
            by_cases c5 : 0 ≤ x4_1
            · rw [if_pos c5] at H
              have c5b0 : decide (0 ≤ x4_1) = true := decide_eq_true c5
              clear c5
              obtain ⟨y135, hy135⟩ : ∃ y_ : List (S41), y_ = (([(⟨false, true, rdOf ByteArray.empty l0 x4_1, (⟨0, 0⟩ : S39)⟩ : S41)] : List (S41))) := ⟨_, rfl⟩
              replace H : (if x3_1.length < 5864062014805 then (stencillaw13_XsortDown.l0 k1 l0 (x3_1 ++ [y135]) (wrap64 (x4_1 + 1))) else (none)) = some r := by first | (rw [hy135]; with_reducible exact H) | (have H2_ := (Option.bind_some _ _).symm.trans H; rw [hy135]; with_reducible exact H2_) | (have H2_ := (Option.bind_some _ _).symm.trans H; with_reducible exact H2_) | with_reducible exact H | (rw [hy135]; exact H) | exact H
              have Ny135 := Aside0.mk hy135
              clear hy135
              by_cases c6 : x3_1.length < 5864062014805
              · rw [if_pos c6] at H
                have LMc6 := Aside0.mk c6
                clear c6
                obtain ⟨y138, hy138⟩ : ∃ y_ : List (List (S41)), y_ = (x3_1 ++ [y135]) := ⟨_, rfl⟩
                replace H : (stencillaw13_XsortDown.l0 k1 l0 y138 (wrap64 (x4_1 + 1))) = some r := by first | (rw [hy138]; with_reducible exact H) | (have H2_ := (Option.bind_some _ _).symm.trans H; rw [hy138]; with_reducible exact H2_) | (have H2_ := (Option.bind_some _ _).symm.trans H; with_reducible exact H2_) | with_reducible exact H | (rw [hy138]; exact H) | exact H
                have Ny138 := Aside0.mk hy138
                clear hy138
                have H' := Aside0.mk H
                clear H
                have p134 : 0 ≤ (x4_1 : Int) := of_decide_eq_true (by first | (with_reducible assumption) | assumption)
                have q134 : x4_1 < (l0.length : Int) := of_decide_eq_true (by first | (with_reducible assumption) | assumption)
                obtain ⟨ad134, e134, hx134_0⟩ := Kd.at_string HR0.out x4_1 p134 q134
                cases e134
                replace hx134_0 := (HB.out.cell (World.block_lt_of_cell? w _ hx134_0)).trans hx134_0
                replace p134 := eq_true p134
                replace q134 := eq_true q134
                go_wp2_with (first | ((with_reducible refine gate_dst (N := 25) rfl ?_); refine Kd.R_lit k41 _ 41 ?hg (N := 25) ?hd (xs := ([(⟨false, true, rdOf ByteArray.empty l0 x4_1, (⟨0, 0⟩ : S39)⟩ : S41)] : List (S41))) (inner := [.bool false, .bool true, .string (rdOf ByteArray.empty l0 x4_1), .int .i64 0, .int .i64 0]) (ok := fun _ => True) (okp := fun _ => True) ?hr ?hp (fun _ hk => hk) trivial (Below.refl _ _) (Nat.le_refl _) (by simp) ?_; (case hd => rfl); (case hg => rfl); (case hr => first | (go_simp; done) | (go_simp; rfl)); (case hp => exact (Reps.c5 (show Kd.M k41 _ _ _ (⟨false, true, rdOf ByteArray.empty l0 x4_1, (⟨0, 0⟩ : S39)⟩ : S41) [.bool false, .bool true, .string (rdOf ByteArray.empty l0 x4_1), .int .i64 0, .int .i64 0] from (k41_mkM _ _ _ (⟨false, true, rdOf ByteArray.empty l0 x4_1, (⟨0, 0⟩ : S39)⟩ : S41) )) (Reps.none _ _))); intro v136 w7 ho8 hb hg_ hnew_; clear hg_ hnew_; (first | rw [← Ny135.out] at ho8 | (simp only [Int.reduceToNat] at ho8; rw [← Ny135.out] at ho8)); have n0_ := Aside0.mk (Kd.S_elder' (by (with_reducible repeat (first | apply Kd.S_alloc | apply Kd.S_drewN | apply Kd.S_drew)); exact HO_3.out) (Kd.R_base ho8) hb); have n1_ := Aside0.mk (Kd.R_lower ho8 (below_size (by repeat (first | (with_reducible first | exact HB.out | apply below_alloc | apply pw_below_drewN | apply below_drew1) | exact HB.out)))); have n2_ := Aside0.mk (below_step (by repeat (first | (with_reducible first | exact HB.out | apply below_alloc | apply pw_below_drewN | apply below_drew1) | exact HB.out)) hb); clear HO_3; clear HB; have HO_3 := n0_; have HO137 := n1_; have HB := n2_; clear n0_ n1_ n2_; clear hb ho8; obtain ⟨Ao10, co10, eo10⟩ := Kd.R_slice HO137.out; subst eo10) | ((with_reducible refine gate_builtin (b := .append) (xs := #[.tmp 19, .tmp 26]) rfl ?_); at_builtin; refine Kd.S_append (Kd.slice 41 k41) (w0 := w) w.heap.size rfl (.tmp 19) (.tmp 26) 25 35 (.slice none 0 0) 24 rfl Tryd.underlying25 info35 rfl (by decide) (by omega) u3 x3_1 y135 [.slice Ao10 y135.length co10] (fun _ => True) (fun k_ => some k_ = (.slice Ao10 y135.length co10 : Value).ownBlock) rfl rfl ?aP (fun k_ hk_ => ((Kd.R_mono (ok' := fun k_ => ((fun _ => True)) k_ ∧ some k_ ≠ (u3 : Value).ownBlock) (Kd.R_apart' (HO137.out) (Kd.S_typed HO_3.out) (by decide)) (fun k_ hk => ⟨trivial, hk.2⟩))).1 k_ hk_.symm) ?aF ?aO ?aB ?aS ?aL ?_; (case aP => exact Kd.M_row (Kd.R_mono (Kd.R_tight rfl (Kd.R_mono (ok' := fun k_ => ((fun _ => True)) k_ ∧ some k_ ≠ (u3 : Value).ownBlock) (Kd.R_apart' (HO137.out) (Kd.S_typed HO_3.out) (by decide)) (fun k_ hk => ⟨trivial, hk.2⟩))) (fun _ h_ => h_))); (case aB => exact (by repeat (first | (with_reducible first | exact HB.out | apply below_alloc | apply pw_below_drewN | apply below_drew1) | exact HB.out))); (case aF => exact (fun _ _ => trivial)); (case aO => exact (by (with_reducible repeat (first | apply Kd.S_alloc | apply Kd.S_drewN | apply Kd.S_drew)); exact Kd.S_mono HO_3.out (fun k_ hk => ⟨trivial, fun e_ => hk.2 e_⟩))); (case aS => exact (below_size (by repeat (first | (with_reducible first | exact HB.out | apply below_alloc | apply pw_below_drewN | apply below_drew1) | exact HB.out)))); (case aL => have := LMc6.out; omega); intro v139 w9 ho hb hg hat; rw [← Ny138.out] at ho; have n0_ := Aside0.mk (hb); have n1_ := Aside0.mk (ho); clear HB; clear HO_3; clear HO137; have HB := n0_; have HO140 := n1_; clear n0_ n1_; clear ho hb hg hat))
                repeat (go_quiet (first | ((with_reducible refine gate_dst (N := 25) rfl ?_); refine Kd.R_lit k41 _ 41 ?hg (N := 25) ?hd (xs := ([(⟨false, true, rdOf ByteArray.empty l0 x4_1, (⟨0, 0⟩ : S39)⟩ : S41)] : List (S41))) (inner := [.bool false, .bool true, .string (rdOf ByteArray.empty l0 x4_1), .int .i64 0, .int .i64 0]) (ok := fun _ => True) (okp := fun _ => True) ?hr ?hp (fun _ hk => hk) trivial (Below.refl _ _) (Nat.le_refl _) (by simp) ?_; (case hd => rfl); (case hg => rfl); (case hr => first | (go_simp; done) | (go_simp; rfl)); (case hp => exact (Reps.c5 (show Kd.M k41 _ _ _ (⟨false, true, rdOf ByteArray.empty l0 x4_1, (⟨0, 0⟩ : S39)⟩ : S41) [.bool false, .bool true, .string (rdOf ByteArray.empty l0 x4_1), .int .i64 0, .int .i64 0] from (k41_mkM _ _ _ (⟨false, true, rdOf ByteArray.empty l0 x4_1, (⟨0, 0⟩ : S39)⟩ : S41) )) (Reps.none _ _))); intro v136 w7 ho8 hb hg_ hnew_; clear hg_ hnew_; (first | rw [← Ny135.out] at ho8 | (simp only [Int.reduceToNat] at ho8; rw [← Ny135.out] at ho8)); have n0_ := Aside0.mk (Kd.S_elder' (by (with_reducible repeat (first | apply Kd.S_alloc | apply Kd.S_drewN | apply Kd.S_drew)); exact HO_3.out) (Kd.R_base ho8) hb); have n1_ := Aside0.mk (Kd.R_lower ho8 (below_size (by repeat (first | (with_reducible first | exact HB.out | apply below_alloc | apply pw_below_drewN | apply below_drew1) | exact HB.out)))); have n2_ := Aside0.mk (below_step (by repeat (first | (with_reducible first | exact HB.out | apply below_alloc | apply pw_below_drewN | apply below_drew1) | exact HB.out)) hb); clear HO_3; clear HB; have HO_3 := n0_; have HO137 := n1_; have HB := n2_; clear n0_ n1_ n2_; clear hb ho8; obtain ⟨Ao10, co10, eo10⟩ := Kd.R_slice HO137.out; subst eo10) | ((with_reducible refine gate_builtin (b := .append) (xs := #[.tmp 19, .tmp 26]) rfl ?_); at_builtin; refine Kd.S_append (Kd.slice 41 k41) (w0 := w) w.heap.size rfl (.tmp 19) (.tmp 26) 25 35 (.slice none 0 0) 24 rfl Tryd.underlying25 info35 rfl (by decide) (by omega) u3 x3_1 y135 [.slice Ao10 y135.length co10] (fun _ => True) (fun k_ => some k_ = (.slice Ao10 y135.length co10 : Value).ownBlock) rfl rfl ?aP (fun k_ hk_ => ((Kd.R_mono (ok' := fun k_ => ((fun _ => True)) k_ ∧ some k_ ≠ (u3 : Value).ownBlock) (Kd.R_apart' (HO137.out) (Kd.S_typed HO_3.out) (by decide)) (fun k_ hk => ⟨trivial, hk.2⟩))).1 k_ hk_.symm) ?aF ?aO ?aB ?aS ?aL ?_; (case aP => exact Kd.M_row (Kd.R_mono (Kd.R_tight rfl (Kd.R_mono (ok' := fun k_ => ((fun _ => True)) k_ ∧ some k_ ≠ (u3 : Value).ownBlock) (Kd.R_apart' (HO137.out) (Kd.S_typed HO_3.out) (by decide)) (fun k_ hk => ⟨trivial, hk.2⟩))) (fun _ h_ => h_))); (case aB => exact (by repeat (first | (with_reducible first | exact HB.out | apply below_alloc | apply pw_below_drewN | apply below_drew1) | exact HB.out))); (case aF => exact (fun _ _ => trivial)); (case aO => exact (by (with_reducible repeat (first | apply Kd.S_alloc | apply Kd.S_drewN | apply Kd.S_drew)); exact Kd.S_mono HO_3.out (fun k_ hk => ⟨trivial, fun e_ => hk.2 e_⟩))); (case aS => exact (below_size (by repeat (first | (with_reducible first | exact HB.out | apply below_alloc | apply pw_below_drewN | apply below_drew1) | exact HB.out)))); (case aL => have := LMc6.out; omega); intro v139 w9 ho hb hg hat; rw [← Ny138.out] at ho; have n0_ := Aside0.mk (hb); have n1_ := Aside0.mk (ho); clear HB; clear HO_3; clear HO137; have HB := n0_; have HO140 := n1_; clear n0_ n1_; clear ho hb hg hat)); try go_wp2_with (first | ((with_reducible refine gate_dst (N := 25) rfl ?_); refine Kd.R_lit k41 _ 41 ?hg (N := 25) ?hd (xs := ([(⟨false, true, rdOf ByteArray.empty l0 x4_1, (⟨0, 0⟩ : S39)⟩ : S41)] : List (S41))) (inner := [.bool false, .bool true, .string (rdOf ByteArray.empty l0 x4_1), .int .i64 0, .int .i64 0]) (ok := fun _ => True) (okp := fun _ => True) ?hr ?hp (fun _ hk => hk) trivial (Below.refl _ _) (Nat.le_refl _) (by simp) ?_; (case hd => rfl); (case hg => rfl); (case hr => first | (go_simp; done) | (go_simp; rfl)); (case hp => exact (Reps.c5 (show Kd.M k41 _ _ _ (⟨false, true, rdOf ByteArray.empty l0 x4_1, (⟨0, 0⟩ : S39)⟩ : S41) [.bool false, .bool true, .string (rdOf ByteArray.empty l0 x4_1), .int .i64 0, .int .i64 0] from (k41_mkM _ _ _ (⟨false, true, rdOf ByteArray.empty l0 x4_1, (⟨0, 0⟩ : S39)⟩ : S41) )) (Reps.none _ _))); intro v136 w7 ho8 hb hg_ hnew_; clear hg_ hnew_; (first | rw [← Ny135.out] at ho8 | (simp only [Int.reduceToNat] at ho8; rw [← Ny135.out] at ho8)); have n0_ := Aside0.mk (Kd.S_elder' (by (with_reducible repeat (first | apply Kd.S_alloc | apply Kd.S_drewN | apply Kd.S_drew)); exact HO_3.out) (Kd.R_base ho8) hb); have n1_ := Aside0.mk (Kd.R_lower ho8 (below_size (by repeat (first | (with_reducible first | exact HB.out | apply below_alloc | apply pw_below_drewN | apply below_drew1) | exact HB.out)))); have n2_ := Aside0.mk (below_step (by repeat (first | (with_reducible first | exact HB.out | apply below_alloc | apply pw_below_drewN | apply below_drew1) | exact HB.out)) hb); clear HO_3; clear HB; have HO_3 := n0_; have HO137 := n1_; have HB := n2_; clear n0_ n1_ n2_; clear hb ho8; obtain ⟨Ao10, co10, eo10⟩ := Kd.R_slice HO137.out; subst eo10) | ((with_reducible refine gate_builtin (b := .append) (xs := #[.tmp 19, .tmp 26]) rfl ?_); at_builtin; refine Kd.S_append (Kd.slice 41 k41) (w0 := w) w.heap.size rfl (.tmp 19) (.tmp 26) 25 35 (.slice none 0 0) 24 rfl Tryd.underlying25 info35 rfl (by decide) (by omega) u3 x3_1 y135 [.slice Ao10 y135.length co10] (fun _ => True) (fun k_ => some k_ = (.slice Ao10 y135.length co10 : Value).ownBlock) rfl rfl ?aP (fun k_ hk_ => ((Kd.R_mono (ok' := fun k_ => ((fun _ => True)) k_ ∧ some k_ ≠ (u3 : Value).ownBlock) (Kd.R_apart' (HO137.out) (Kd.S_typed HO_3.out) (by decide)) (fun k_ hk => ⟨trivial, hk.2⟩))).1 k_ hk_.symm) ?aF ?aO ?aB ?aS ?aL ?_; (case aP => exact Kd.M_row (Kd.R_mono (Kd.R_tight rfl (Kd.R_mono (ok' := fun k_ => ((fun _ => True)) k_ ∧ some k_ ≠ (u3 : Value).ownBlock) (Kd.R_apart' (HO137.out) (Kd.S_typed HO_3.out) (by decide)) (fun k_ hk => ⟨trivial, hk.2⟩))) (fun _ h_ => h_))); (case aB => exact (by repeat (first | (with_reducible first | exact HB.out | apply below_alloc | apply pw_below_drewN | apply below_drew1) | exact HB.out))); (case aF => exact (fun _ _ => trivial)); (case aO => exact (by (with_reducible repeat (first | apply Kd.S_alloc | apply Kd.S_drewN | apply Kd.S_drew)); exact Kd.S_mono HO_3.out (fun k_ hk => ⟨trivial, fun e_ => hk.2 e_⟩))); (case aS => exact (below_size (by repeat (first | (with_reducible first | exact HB.out | apply below_alloc | apply pw_below_drewN | apply below_drew1) | exact HB.out)))); (case aL => have := LMc6.out; omega); intro v139 w9 ho hb hg hat; rw [← Ny138.out] at ho; have n0_ := Aside0.mk (hb); have n1_ := Aside0.mk (ho); clear HB; clear HO_3; clear HO137; have HB := n0_; have HO140 := n1_; clear n0_ n1_; clear ho hb hg hat)))
                go_roundg k1
                case measure => have := HK1.out; omega
                case rel => exact ⟨(y138), (wrap64 (x4_1 + 1)), (by first | rfl | (simp; done) | (simp [*]; done)), H', ⟨by have := HK1.out; omega⟩, ⟨by (with_reducible repeat (first | apply Kd.S_alloc | apply Kd.S_drewN | apply Kd.S_drew)); exact HO140.out⟩, ⟨by repeat (first | (with_reducible first | exact HB.out | apply below_alloc | apply pw_below_drewN | apply below_drew1) | exact HB.out)⟩⟩
              · rw [if_neg c6] at H
                exact absurd H (by simp)
            · rw [if_neg c5] at H
              exact absurd H (by simp)
          · rw [if_neg c4] at H
            have c4b0 : decide (x4_1 < 30) = false := decide_eq_false c4
            clear c4
            have H' := Aside0.mk H
            clear H
            go_wp2
            repeat (go_quiet (fail); try go_wp2)
            go_meet
            case rel => exact ⟨_, (x3_1), H', ⟨by have := HK1.out; first | omega | exact Nat.le_refl _⟩, ⟨by (with_reducible repeat (first | apply Kd.S_alloc | apply Kd.S_drewN | apply Kd.S_drew)); exact HO_3.out⟩, ⟨by repeat (first | (with_reducible first | exact HB.out | apply below_alloc | apply pw_below_drewN | apply below_drew1) | exact HB.out)⟩⟩
        · rw [if_neg c3] at H
          have c3b0 : decide (x4_1 < (l0.length : Int)) = false := decide_eq_false c3
          clear c3
          (first | rw [c3b0] | (simp only [i64_w, i32_w]; rw [c3b0]) | skip)
          have H' := Aside0.mk H
          clear H
          go_wp2
          repeat (go_quiet (fail); try go_wp2)
          go_meet
          case rel => exact ⟨_, (x3_1), H', ⟨by have := HK1.out; first | omega | exact Nat.le_refl _⟩, ⟨by (with_reducible repeat (first | apply Kd.S_alloc | apply Kd.S_drewN | apply Kd.S_drew)); exact HO_3.out⟩, ⟨by repeat (first | (with_reducible first | exact HB.out | apply below_alloc | apply pw_below_drewN | apply below_drew1) | exact HB.out)⟩⟩
  case rest =>
    clear HC2
    try clear p1
    try clear q1
    try clear hx1
    try clear p2
    try clear c3
    try clear c3b0
    try clear c4
    try clear c4b0
    try clear c5
    try clear c5b0
    try clear c6
    try clear p6
    try clear c7
    try clear hx134_0
    try clear p134
    try clear p2
    try clear q134
    obtain ⟨kq, x3_1, HA, HJ1, HO_3, HB⟩ := hcut
    cases kq with
    | zero => exact absurd HA.out (by simp [stencillaw13_XsortDown.j1])
    | succ kj1 =>
      have H := HA.out
      clear HA
      simp only [stencillaw13_XsortDown.j1] at H
      replace H := Option.bind_eq_some_iff.mp H
      obtain ⟨t141, A110, H⟩ := H
      replace H : (if (t141.length : Int) = (x3_1.length : Int) then (stencillaw13_XsortDown.l1 kj1 x3_1 t141 1) else (some false)) = some r := H
      have A11 := Aside0.mk A110
      clear A110
      by_cases c12 : (t141.length : Int) = (x3_1.length : Int)
      · rw [if_pos c12] at H
        have c12b0 : ((t141.length : Int) == (x3_1.length : Int)) = true := beq_iff_eq.mpr c12
        have c12b1 : ((t141.length : Int) != (x3_1.length : Int)) = false := bne_eq_false_iff_eq.mpr c12
        have c12b2 : (t141.length == x3_1.length) = true := by first | simpa using c12 | (simp at c12 ⊢; omega)
        clear c12
        have H' := Aside0.mk H
        clear H
        obtain ⟨Ao13, co13, eo13⟩ := Kd.S_slice HO_3.out
        subst eo13
        go_wp2_with (first | (go_at_call 17; (with_reducible refine (xsort_Order.calls kj1 _ _ x3_1 t141 _ ?side1 ?side2 ?side3 A11.out).mono ?_); (case side1 => repeat (first | exact (Kd.S_reads' HO_3.out).2.2 | (with_reducible refine Kd.C_alloc ?_ _) | (with_reducible refine Kd.C_drewN ?_ _) | (with_reducible refine Kd.C_drew ?_))); (case side2 => exact (Kd.S_reads' HO_3.out).2.1); (case side3 => first | exact HLD | exact Laid.below HLD (by repeat (first | (with_reducible first | exact HB.out | apply below_alloc | apply pw_below_drewN | apply below_drew1) | exact HB.out))); rintro e w14 ⟨v142, rfl, ho0, hb⟩; have n0_ := Aside0.mk (Kd.S_below (by (with_reducible repeat (first | apply Kd.S_alloc | apply Kd.S_drewN | apply Kd.S_drew)); exact HO_3.out) hb); have n1_ := Aside0.mk (Kd.R_lower ho0 (below_size (by repeat (first | (with_reducible first | exact HB.out | apply below_alloc | apply pw_below_drewN | apply below_drew1) | exact HB.out)))); have n2_ := Aside0.mk (below_step (by repeat (first | (with_reducible first | exact HB.out | apply below_alloc | apply pw_below_drewN | apply below_drew1) | exact HB.out)) hb); clear HO_3; clear HB; have HO_3 := n0_; have HO143 := n1_; have HB := n2_; clear n0_ n1_ n2_; (try clear hb); (try clear hb2); (try clear hk); (try clear hi); (try clear ho0); obtain ⟨Ao15, co15, eo15⟩ := Kd.R_slice HO143.out; subst eo15))
        repeat (go_quiet (first | (go_at_call 17; (with_reducible refine (xsort_Order.calls kj1 _ _ x3_1 t141 _ ?side1 ?side2 ?side3 A11.out).mono ?_); (case side1 => repeat (first | exact (Kd.S_reads' HO_3.out).2.2 | (with_reducible refine Kd.C_alloc ?_ _) | (with_reducible refine Kd.C_drewN ?_ _) | (with_reducible refine Kd.C_drew ?_))); (case side2 => exact (Kd.S_reads' HO_3.out).2.1); (case side3 => first | exact HLD | exact Laid.below HLD (by repeat (first | (with_reducible first | exact HB.out | apply below_alloc | apply pw_below_drewN | apply below_drew1) | exact HB.out))); rintro e w14 ⟨v142, rfl, ho0, hb⟩; have n0_ := Aside0.mk (Kd.S_below (by (with_reducible repeat (first | apply Kd.S_alloc | apply Kd.S_drewN | apply Kd.S_drew)); exact HO_3.out) hb); have n1_ := Aside0.mk (Kd.R_lower ho0 (below_size (by repeat (first | (with_reducible first | exact HB.out | apply below_alloc | apply pw_below_drewN | apply below_drew1) | exact HB.out)))); have n2_ := Aside0.mk (below_step (by repeat (first | (with_reducible first | exact HB.out | apply below_alloc | apply pw_below_drewN | apply below_drew1) | exact HB.out)) hb); clear HO_3; clear HB; have HO_3 := n0_; have HO143 := n1_; have HB := n2_; clear n0_ n1_ n2_; (try clear hb); (try clear hb2); (try clear hk); (try clear hi); (try clear ho0); obtain ⟨Ao15, co15, eo15⟩ := Kd.R_slice HO143.out; subst eo15)); try go_wp2_with (first | (go_at_call 17; (with_reducible refine (xsort_Order.calls kj1 _ _ x3_1 t141 _ ?side1 ?side2 ?side3 A11.out).mono ?_); (case side1 => repeat (first | exact (Kd.S_reads' HO_3.out).2.2 | (with_reducible refine Kd.C_alloc ?_ _) | (with_reducible refine Kd.C_drewN ?_ _) | (with_reducible refine Kd.C_drew ?_))); (case side2 => exact (Kd.S_reads' HO_3.out).2.1); (case side3 => first | exact HLD | exact Laid.below HLD (by repeat (first | (with_reducible first | exact HB.out | apply below_alloc | apply pw_below_drewN | apply below_drew1) | exact HB.out))); rintro e w14 ⟨v142, rfl, ho0, hb⟩; have n0_ := Aside0.mk (Kd.S_below (by (with_reducible repeat (first | apply Kd.S_alloc | apply Kd.S_drewN | apply Kd.S_drew)); exact HO_3.out) hb); have n1_ := Aside0.mk (Kd.R_lower ho0 (below_size (by repeat (first | (with_reducible first | exact HB.out | apply below_alloc | apply pw_below_drewN | apply below_drew1) | exact HB.out)))); have n2_ := Aside0.mk (below_step (by repeat (first | (with_reducible first | exact HB.out | apply below_alloc | apply pw_below_drewN | apply below_drew1) | exact HB.out)) hb); clear HO_3; clear HB; have HO_3 := n0_; have HO143 := n1_; have HB := n2_; clear n0_ n1_ n2_; (try clear hb); (try clear hb2); (try clear hk); (try clear hi); (try clear ho0); obtain ⟨Ao15, co15, eo15⟩ := Kd.R_slice HO143.out; subst eo15)))
        go_loopg [6] kj1 (fun kq v6 w' => ∃ (x6_2 : Int), v6 = .int .i64 x6_2 ∧ Aside0 (stencillaw13_XsortDown.l1 kq x3_1 t141 x6_2 = some r) ∧ Aside0 (kq ≤ kj1) ∧ Aside0 (Kd.S (Kd.slice 41 k41) 35 w' w.heap.size (fun _ => True) (.slice Ao13 x3_1.length co13) x3_1) ∧ Aside0 (Kd.R (Kd.int .i64) 3 w' w.heap.size (fun _ => True) (.slice Ao15 t141.length co15) t141) ∧ Aside0 (Below w.heap.size w w'))
        case atStart => exact ⟨(1), (by first | rfl | (simp; done) | (simp [*]; done)), H', ⟨Nat.le_refl _⟩, ⟨by (with_reducible repeat (first | apply Kd.S_alloc | apply Kd.S_drewN | apply Kd.S_drew)); exact HO_3.out⟩, ⟨by (with_reducible repeat (first | apply Kd.R_alloc | apply Kd.R_drewN | apply Kd.R_drew)); exact HO143.out⟩, ⟨by repeat (first | (with_reducible first | exact HB.out | apply below_alloc | apply pw_below_drewN | apply below_drew1) | exact HB.out)⟩⟩
        case round =>
          clear H'
          try clear c1
          try clear p1
          try clear q1
          try clear hx1
          try clear p2
          try clear c3
          try clear c3b0
          try clear c4
          try clear c4b0
          try clear c5
          try clear c5b0
          try clear c6
          try clear p6
          try clear c7
          try clear c12
          try clear c12b0
          try clear c12b1
          try clear c12b2
          try clear p13
          try clear q13
          try clear hx13
          try clear hx134_0
          try clear p1
          try clear p134
          try clear p2
          try clear p6
          try clear q1
          try clear q134
          obtain ⟨x6_2, rfl, HA, HK2, HO_3, HO_5, HB⟩ := hrel
          cases gk with
          | zero => exact absurd HA.out (by simp [stencillaw13_XsortDown.l1])
          | succ k2 =>
            have H := HA.out
            clear HA
            simp only [stencillaw13_XsortDown.l1] at H
            by_cases c16 : x6_2 < (t141.length : Int)
            · rw [if_pos c16] at H
              have c16b0 : decide (x6_2 < (t141.length : Int)) = true := decide_eq_true c16
              clear c16
              obtain ⟨ji17, hji17⟩ : ∃ j_ : Int, (wrap64 (x6_2 - 1)) = j_ := ⟨_, rfl⟩
              replace H : (if 0 ≤ (ji17) then (if (ji17) < (t141.length : Int) then (if 0 ≤ (rd t141 (ji17)) then (if (rd t141 (ji17)) < (x3_1.length : Int) then (if 0 < ((rd_L5 x3_1 (rd t141 (ji17))).length : Int) then (if 0 ≤ x6_2 then (if 0 ≤ (rd t141 x6_2) then (if (rd t141 x6_2) < (x3_1.length : Int) then (if 0 < ((rd_L5 x3_1 (rd t141 x6_2)).length : Int) then (if (Op.bytesLess (((rd_T41 (rd_L5 x3_1 (rd t141 (ji17))) 0).f2).toList) (((rd_T41 (rd_L5 x3_1 (rd t141 x6_2)) 0).f2).toList)) = true then (some false) else (if ((rd_T41 (rd_L5 x3_1 (rd t141 (ji17))) 0).f2).toList = ((rd_T41 (rd_L5 x3_1 (rd t141 x6_2)) 0).f2).toList then (if (rd t141 (ji17)) > (rd t141 x6_2) then (some false) else (stencillaw13_XsortDown.l1 k2 x3_1 t141 (wrap64 (x6_2 + 1)))) else (stencillaw13_XsortDown.l1 k2 x3_1 t141 (wrap64 (x6_2 + 1))))) else (none)) else (none)) else (none)) else (none)) else (none)) else (none)) else (none)) else (none)) else (none)) = some r := by first | (rw [hji17] at H; exact H) | (simp only [hji17] at H ⊢; exact H)
              have hji17w : (IntKind.i64.wrap (x6_2 - 1)) = ji17 := (i64_w _).trans hji17
              by_cases c18 : 0 ≤ (ji17)
              · rw [if_pos c18] at H
                have c18b0 : decide (0 ≤ (ji17)) = true := decide_eq_true c18
                clear c18
                by_cases c19 : (ji17) < (t141.length : Int)
                · rw [if_pos c19] at H
                  have c19b0 : decide ((ji17) < (t141.length : Int)) = true := decide_eq_true c19
                  clear c19
                  by_cases c20 : 0 ≤ (rd t141 (ji17))
                  · rw [if_pos c20] at H
                    have c20b0 : decide (0 ≤ (rd t141 (ji17))) = true := decide_eq_true c20
                    clear c20
                    by_cases c21 : (rd t141 (ji17)) < (x3_1.length : Int)
                    · rw [if_pos c21] at H
                      have c21b0 : decide ((rd t141 (ji17)) < (x3_1.length : Int)) = true := decide_eq_true c21
                      clear c21
                      by_cases c22 : 0 < ((rd_L5 x3_1 (rd t141 (ji17))).length : Int)
                      · rw [if_pos c22] at H
                        have c22b0 : decide (0 < ((rd_L5 x3_1 (rd t141 (ji17))).length : Int)) = true := decide_eq_true c22
                        have c22b1 : decide (0 < (rd_L5 x3_1 (rd t141 (ji17))).length) = true := decide_eq_true (by omega)
                        clear c22
                        by_cases c23 : 0 ≤ x6_2
                        · rw [if_pos c23] at H
                          have c23b0 : decide (0 ≤ x6_2) = true := decide_eq_true c23
                          clear c23
                          by_cases c24 : 0 ≤ (rd t141 x6_2)
                          · rw [if_pos c24] at H
                            have c24b0 : decide (0 ≤ (rd t141 x6_2)) = true := decide_eq_true c24
                            clear c24
                            by_cases c25 : (rd t141 x6_2) < (x3_1.length : Int)
                            · rw [if_pos c25] at H
                              have c25b0 : decide ((rd t141 x6_2) < (x3_1.length : Int)) = true := decide_eq_true c25
                              clear c25
                              by_cases c26 : 0 < ((rd_L5 x3_1 (rd t141 x6_2)).length : Int)
                              · rw [if_pos c26] at H
                                have c26b0 : decide (0 < ((rd_L5 x3_1 (rd t141 x6_2)).length : Int)) = true := decide_eq_true c26
                                have c26b1 : decide (0 < (rd_L5 x3_1 (rd t141 x6_2)).length) = true := decide_eq_true (by omega)
                                clear c26
                                by_cases c27 : (Op.bytesLess (((rd_T41 (rd_L5 x3_1 (rd t141 (ji17))) 0).f2).toList) (((rd_T41 (rd_L5 x3_1 (rd t141 x6_2)) 0).f2).toList)) = true
                                · rw [if_pos c27] at H
                                  have c27b0 : (Op.bytesLess (((rd_T41 (rd_L5 x3_1 (rd t141 (ji17))) 0).f2).toList) (((rd_T41 (rd_L5 x3_1 (rd t141 x6_2)) 0).f2).toList)) = true := c27
                                  clear c27
                                  obtain rfl := Option.some.inj H
                                  have p144 : 0 ≤ ((ji17) : Int) := of_decide_eq_true (by first | (with_reducible assumption) | assumption)
                                  have q144 : (ji17) < (t141.length : Int) := of_decide_eq_true (by first | (with_reducible assumption) | assumption)
                                  obtain ⟨ad144, e144, hx144_0⟩ := Kd.at_int (Kd.R_reads' HO_5.out).2.2 (ji17) p144 q144
                                  cases e144
                                  replace p144 := eq_true p144
                                  replace q144 := eq_true q144
                                  have p145 : 0 ≤ ((rd t141 (ji17)) : Int) := of_decide_eq_true (by first | (with_reducible assumption) | assumption)
                                  have q145 : (rd t141 (ji17)) < (x3_1.length : Int) := of_decide_eq_true (by first | (with_reducible assumption) | assumption)
                                  obtain ⟨ad145, A145_0, c145_0, e145, hx145_0, hl145_0, hi145_0⟩ := at_L5 (Kd.S_reads' HO_3.out).2.2 (rd t141 (ji17)) p145 q145
                                  cases e145
                                  obtain ⟨ce145, hce145, hMe145, hcc145⟩ := Kd.S_get HO_3.out [] (rd t141 (ji17)) p145 (by first | exact q145 | exact of_decide_eq_true (by first | (with_reducible assumption) | assumption) | (have e_ := (Kd.S_reads' HO_3.out).1; omega))
                                  obtain ⟨ve145_0, rfl, ge145_0⟩ := hMe145
                                  have hv145_0 := hcc145 0 _ rfl
                                  rw [Nat.add_zero, show ((Kd.slice 41 k41)).sz = 1 from rfl, Nat.mul_one] at hv145_0
                                  replace hv145_0 := Option.some.inj (hv145_0.symm.trans hx145_0)
                                  rw [hv145_0] at ge145_0
                                  have HL145_0 := Aside0.mk (show Kd.R k41 41 _ _ _ _ (rd_L5 x3_1 (rd t141 (ji17))) from ge145_0)
                                  clear hv145_0 ge145_0
                                  clear hcc145 hce145
                                  have HR145_0 := Aside0.mk hi145_0
                                  have HC145_0 := Aside0.mk hl145_0
                                  clear hi145_0 hl145_0
                                  replace p145 := eq_true p145
                                  replace q145 := eq_true q145
                                  have p146 : 0 ≤ (0 : Int) := (by omega)
                                  have q146 : 0 < ((rd_L5 x3_1 (rd t141 (ji17))).length : Int) := of_decide_eq_true (by first | (with_reducible assumption) | assumption)
                                  obtain ⟨ad146, e146, hx146_0, hx146_1, hx146_2, hx146_3, hx146_4⟩ := at_T41 (by repeat (first | (with_reducible exact HR145_0.out) | (with_reducible refine Kd.C_alloc ?_ _) | (with_reducible refine Kd.C_drewN ?_ _) | (with_reducible refine Kd.C_drew ?_) | exact HR145_0.out)) 0 p146 q146
                                  cases e146
                                  have qi146 : (0 < (rd_L5 x3_1 (rd t141 (ji17))).length) = True := eq_true (by omega)
                                  (try rw [show ((0 : Int)).toNat = 0 from rfl] at hx146_0)
                                  (try rw [show 0 * 5 = 0 from rfl] at hx146_0)
                                  (try rw [Addr.add_zero'] at hx146_0)
                                  (try rw [show ((0 : Int)).toNat = 0 from rfl] at hx146_1)
                                  (try rw [show 0 * 5 = 0 from rfl] at hx146_1)
                                  (try rw [Addr.add_zero'] at hx146_1)
                                  (try rw [show ((0 : Int)).toNat = 0 from rfl] at hx146_2)
                                  (try rw [show 0 * 5 = 0 from rfl] at hx146_2)
                                  (try rw [Addr.add_zero'] at hx146_2)
                                  (try rw [show ((0 : Int)).toNat = 0 from rfl] at hx146_3)
                                  (try rw [show 0 * 5 = 0 from rfl] at hx146_3)
                                  (try rw [Addr.add_zero'] at hx146_3)
                                  (try rw [show ((0 : Int)).toNat = 0 from rfl] at hx146_4)
                                  (try rw [show 0 * 5 = 0 from rfl] at hx146_4)
                                  (try rw [Addr.add_zero'] at hx146_4)
                                  replace p146 := eq_true p146
                                  replace q146 := eq_true q146
                                  have p147 : 0 ≤ (x6_2 : Int) := of_decide_eq_true (by first | (with_reducible assumption) | assumption)
                                  have q147 : x6_2 < (t141.length : Int) := of_decide_eq_true (by first | (with_reducible assumption) | assumption)
                                  obtain ⟨ad147, e147, hx147_0⟩ := Kd.at_int (Kd.R_reads' HO_5.out).2.2 x6_2 p147 q147
                                  obtain rfl : ad144 = ad147 := (by injection e147)
                                  replace p147 := eq_true p147
                                  replace q147 := eq_true q147
                                  have p148 : 0 ≤ ((rd t141 x6_2) : Int) := of_decide_eq_true (by first | (with_reducible assumption) | assumption)
                                  have q148 : (rd t141 x6_2) < (x3_1.length : Int) := of_decide_eq_true (by first | (with_reducible assumption) | assumption)
                                  obtain ⟨ad148, A148_0, c148_0, e148, hx148_0, hl148_0, hi148_0⟩ := at_L5 (Kd.S_reads' HO_3.out).2.2 (rd t141 x6_2) p148 q148
                                  obtain rfl : ad145 = ad148 := (by injection e148)
                                  obtain ⟨ce148, hce148, hMe148, hcc148⟩ := Kd.S_get HO_3.out [] (rd t141 x6_2) p148 (by first | exact q148 | exact of_decide_eq_true (by first | (with_reducible assumption) | assumption) | (have e_ := (Kd.S_reads' HO_3.out).1; omega))
                                  obtain ⟨ve148_0, rfl, ge148_0⟩ := hMe148
                                  have hv148_0 := hcc148 0 _ rfl
                                  rw [Nat.add_zero, show ((Kd.slice 41 k41)).sz = 1 from rfl, Nat.mul_one] at hv148_0
                                  replace hv148_0 := Option.some.inj (hv148_0.symm.trans hx148_0)
                                  rw [hv148_0] at ge148_0
                                  have HL148_0 := Aside0.mk (show Kd.R k41 41 _ _ _ _ (rd_L5 x3_1 (rd t141 x6_2)) from ge148_0)
                                  clear hv148_0 ge148_0
                                  clear hcc148 hce148
                                  have HR148_0 := Aside0.mk hi148_0
                                  have HC148_0 := Aside0.mk hl148_0
                                  clear hi148_0 hl148_0
                                  replace p148 := eq_true p148
                                  replace q148 := eq_true q148
                                  have p149 : 0 ≤ (0 : Int) := (by omega)
                                  have q149 : 0 < ((rd_L5 x3_1 (rd t141 x6_2)).length : Int) := of_decide_eq_true (by first | (with_reducible assumption) | assumption)
                                  obtain ⟨ad149, e149, hx149_0, hx149_1, hx149_2, hx149_3, hx149_4⟩ := at_T41 (by repeat (first | (with_reducible exact HR148_0.out) | (with_reducible refine Kd.C_alloc ?_ _) | (with_reducible refine Kd.C_drewN ?_ _) | (with_reducible refine Kd.C_drew ?_) | exact HR148_0.out)) 0 p149 q149
                                  cases e149
                                  have qi149 : (0 < (rd_L5 x3_1 (rd t141 x6_2)).length) = True := eq_true (by omega)
                                  (try rw [show ((0 : Int)).toNat = 0 from rfl] at hx149_0)
                                  (try rw [show 0 * 5 = 0 from rfl] at hx149_0)
                                  (try rw [Addr.add_zero'] at hx149_0)
                                  (try rw [show ((0 : Int)).toNat = 0 from rfl] at hx149_1)
                                  (try rw [show 0 * 5 = 0 from rfl] at hx149_1)
                                  (try rw [Addr.add_zero'] at hx149_1)
                                  (try rw [show ((0 : Int)).toNat = 0 from rfl] at hx149_2)
                                  (try rw [show 0 * 5 = 0 from rfl] at hx149_2)
                                  (try rw [Addr.add_zero'] at hx149_2)
                                  (try rw [show ((0 : Int)).toNat = 0 from rfl] at hx149_3)
                                  (try rw [show 0 * 5 = 0 from rfl] at hx149_3)
                                  (try rw [Addr.add_zero'] at hx149_3)
                                  (try rw [show ((0 : Int)).toNat = 0 from rfl] at hx149_4)
                                  (try rw [show 0 * 5 = 0 from rfl] at hx149_4)
                                  (try rw [Addr.add_zero'] at hx149_4)
                                  replace p149 := eq_true p149
                                  replace q149 := eq_true q149
                                  go_wp2
                                  repeat (go_quiet (fail); try go_wp2)
                                  go_ret
                                  exact ⟨by first | rfl | (simp [errW_none, errW_some] <;> rfl) | (simp only [← hji17]; first | rfl | (simp [errW_none, errW_some] <;> rfl)) | (simp [*, errW_none, errW_some] <;> rfl), by repeat (first | (with_reducible first | exact HB.out | apply below_alloc | apply pw_below_drewN | apply below_drew1) | exact HB.out)⟩
                                · rw [if_neg c27] at H
                                  have c27b0 : (Op.bytesLess (((rd_T41 (rd_L5 x3_1 (rd t141 (ji17))) 0).f2).toList) (((rd_T41 (rd_L5 x3_1 (rd t141 x6_2)) 0).f2).toList)) = false := by simpa using c27
                                  clear c27
                                  by_cases c28 : ((rd_T41 (rd_L5 x3_1 (rd t141 (ji17))) 0).f2).toList = ((rd_T41 (rd_L5 x3_1 (rd t141 x6_2)) 0).f2).toList
                                  · rw [if_pos c28] at H
                                    have c28b0 : (((rd_T41 (rd_L5 x3_1 (rd t141 (ji17))) 0).f2).toList == ((rd_T41 (rd_L5 x3_1 (rd t141 x6_2)) 0).f2).toList) = true := beq_iff_eq.mpr c28
                                    have c28b1 : (((rd_T41 (rd_L5 x3_1 (rd t141 (ji17))) 0).f2).toList != ((rd_T41 (rd_L5 x3_1 (rd t141 x6_2)) 0).f2).toList) = false := bne_eq_false_iff_eq.mpr c28
                                    clear c28
                                    by_cases c29 : (rd t141 (ji17)) > (rd t141 x6_2)
                                    · rw [if_pos c29] at H
                                      have c29b0 : decide ((rd t141 x6_2) < (rd t141 (ji17))) = true := decide_eq_true c29
                                      clear c29
                                      obtain rfl := Option.some.inj H
                                      have p144 : 0 ≤ ((ji17) : Int) := of_decide_eq_true (by first | (with_reducible assumption) | assumption)
                                      have q144 : (ji17) < (t141.length : Int) := of_decide_eq_true (by first | (with_reducible assumption) | assumption)
                                      obtain ⟨ad144, e144, hx144_0⟩ := Kd.at_int (Kd.R_reads' HO_5.out).2.2 (ji17) p144 q144
                                      cases e144
                                      replace p144 := eq_true p144
                                      replace q144 := eq_true q144
                                      have p145 : 0 ≤ ((rd t141 (ji17)) : Int) := of_decide_eq_true (by first | (with_reducible assumption) | assumption)
                                      have q145 : (rd t141 (ji17)) < (x3_1.length : Int) := of_decide_eq_true (by first | (with_reducible assumption) | assumption)
                                      obtain ⟨ad145, A145_0, c145_0, e145, hx145_0, hl145_0, hi145_0⟩ := at_L5 (Kd.S_reads' HO_3.out).2.2 (rd t141 (ji17)) p145 q145
                                      cases e145
                                      obtain ⟨ce145, hce145, hMe145, hcc145⟩ := Kd.S_get HO_3.out [] (rd t141 (ji17)) p145 (by first | exact q145 | exact of_decide_eq_true (by first | (with_reducible assumption) | assumption) | (have e_ := (Kd.S_reads' HO_3.out).1; omega))
                                      obtain ⟨ve145_0, rfl, ge145_0⟩ := hMe145
                                      have hv145_0 := hcc145 0 _ rfl
                                      rw [Nat.add_zero, show ((Kd.slice 41 k41)).sz = 1 from rfl, Nat.mul_one] at hv145_0
                                      replace hv145_0 := Option.some.inj (hv145_0.symm.trans hx145_0)
                                      rw [hv145_0] at ge145_0
                                      have HL145_0 := Aside0.mk (show Kd.R k41 41 _ _ _ _ (rd_L5 x3_1 (rd t141 (ji17))) from ge145_0)
                                      clear hv145_0 ge145_0
                                      clear hcc145 hce145
                                      have HR145_0 := Aside0.mk hi145_0
                                      have HC145_0 := Aside0.mk hl145_0
                                      clear hi145_0 hl145_0
                                      replace p145 := eq_true p145
                                      replace q145 := eq_true q145
                                      have p146 : 0 ≤ (0 : Int) := (by omega)
                                      have q146 : 0 < ((rd_L5 x3_1 (rd t141 (ji17))).length : Int) := of_decide_eq_true (by first | (with_reducible assumption) | assumption)
                                      obtain ⟨ad146, e146, hx146_0, hx146_1, hx146_2, hx146_3, hx146_4⟩ := at_T41 (by repeat (first | (with_reducible exact HR145_0.out) | (with_reducible refine Kd.C_alloc ?_ _) | (with_reducible refine Kd.C_drewN ?_ _) | (with_reducible refine Kd.C_drew ?_) | exact HR145_0.out)) 0 p146 q146
                                      cases e146
                                      have qi146 : (0 < (rd_L5 x3_1 (rd t141 (ji17))).length) = True := eq_true (by omega)
                                      (try rw [show ((0 : Int)).toNat = 0 from rfl] at hx146_0)
                                      (try rw [show 0 * 5 = 0 from rfl] at hx146_0)
                                      (try rw [Addr.add_zero'] at hx146_0)
                                      (try rw [show ((0 : Int)).toNat = 0 from rfl] at hx146_1)
                                      (try rw [show 0 * 5 = 0 from rfl] at hx146_1)
                                      (try rw [Addr.add_zero'] at hx146_1)
                                      (try rw [show ((0 : Int)).toNat = 0 from rfl] at hx146_2)
                                      (try rw [show 0 * 5 = 0 from rfl] at hx146_2)
                                      (try rw [Addr.add_zero'] at hx146_2)
                                      (try rw [show ((0 : Int)).toNat = 0 from rfl] at hx146_3)
                                      (try rw [show 0 * 5 = 0 from rfl] at hx146_3)
                                      (try rw [Addr.add_zero'] at hx146_3)
                                      (try rw [show ((0 : Int)).toNat = 0 from rfl] at hx146_4)
                                      (try rw [show 0 * 5 = 0 from rfl] at hx146_4)
                                      (try rw [Addr.add_zero'] at hx146_4)
                                      replace p146 := eq_true p146
                                      replace q146 := eq_true q146
                                      have p147 : 0 ≤ (x6_2 : Int) := of_decide_eq_true (by first | (with_reducible assumption) | assumption)
                                      have q147 : x6_2 < (t141.length : Int) := of_decide_eq_true (by first | (with_reducible assumption) | assumption)
                                      obtain ⟨ad147, e147, hx147_0⟩ := Kd.at_int (Kd.R_reads' HO_5.out).2.2 x6_2 p147 q147
                                      obtain rfl : ad144 = ad147 := (by injection e147)
                                      replace p147 := eq_true p147
                                      replace q147 := eq_true q147
                                      have p148 : 0 ≤ ((rd t141 x6_2) : Int) := of_decide_eq_true (by first | (with_reducible assumption) | assumption)
                                      have q148 : (rd t141 x6_2) < (x3_1.length : Int) := of_decide_eq_true (by first | (with_reducible assumption) | assumption)
                                      obtain ⟨ad148, A148_0, c148_0, e148, hx148_0, hl148_0, hi148_0⟩ := at_L5 (Kd.S_reads' HO_3.out).2.2 (rd t141 x6_2) p148 q148
                                      obtain rfl : ad145 = ad148 := (by injection e148)
                                      obtain ⟨ce148, hce148, hMe148, hcc148⟩ := Kd.S_get HO_3.out [] (rd t141 x6_2) p148 (by first | exact q148 | exact of_decide_eq_true (by first | (with_reducible assumption) | assumption) | (have e_ := (Kd.S_reads' HO_3.out).1; omega))
                                      obtain ⟨ve148_0, rfl, ge148_0⟩ := hMe148
                                      have hv148_0 := hcc148 0 _ rfl
                                      rw [Nat.add_zero, show ((Kd.slice 41 k41)).sz = 1 from rfl, Nat.mul_one] at hv148_0
                                      replace hv148_0 := Option.some.inj (hv148_0.symm.trans hx148_0)
                                      rw [hv148_0] at ge148_0
                                      have HL148_0 := Aside0.mk (show Kd.R k41 41 _ _ _ _ (rd_L5 x3_1 (rd t141 x6_2)) from ge148_0)
                                      clear hv148_0 ge148_0
                                      clear hcc148 hce148
                                      have HR148_0 := Aside0.mk hi148_0
                                      have HC148_0 := Aside0.mk hl148_0
                                      clear hi148_0 hl148_0
                                      replace p148 := eq_true p148
                                      replace q148 := eq_true q148
                                      have p149 : 0 ≤ (0 : Int) := (by omega)
                                      have q149 : 0 < ((rd_L5 x3_1 (rd t141 x6_2)).length : Int) := of_decide_eq_true (by first | (with_reducible assumption) | assumption)
                                      obtain ⟨ad149, e149, hx149_0, hx149_1, hx149_2, hx149_3, hx149_4⟩ := at_T41 (by repeat (first | (with_reducible exact HR148_0.out) | (with_reducible refine Kd.C_alloc ?_ _) | (with_reducible refine Kd.C_drewN ?_ _) | (with_reducible refine Kd.C_drew ?_) | exact HR148_0.out)) 0 p149 q149
                                      cases e149
                                      have qi149 : (0 < (rd_L5 x3_1 (rd t141 x6_2)).length) = True := eq_true (by omega)
                                      (try rw [show ((0 : Int)).toNat = 0 from rfl] at hx149_0)
                                      (try rw [show 0 * 5 = 0 from rfl] at hx149_0)
                                      (try rw [Addr.add_zero'] at hx149_0)
                                      (try rw [show ((0 : Int)).toNat = 0 from rfl] at hx149_1)
                                      (try rw [show 0 * 5 = 0 from rfl] at hx149_1)
                                      (try rw [Addr.add_zero'] at hx149_1)
                                      (try rw [show ((0 : Int)).toNat = 0 from rfl] at hx149_2)
                                      (try rw [show 0 * 5 = 0 from rfl] at hx149_2)
                                      (try rw [Addr.add_zero'] at hx149_2)
                                      (try rw [show ((0 : Int)).toNat = 0 from rfl] at hx149_3)
                                      (try rw [show 0 * 5 = 0 from rfl] at hx149_3)
                                      (try rw [Addr.add_zero'] at hx149_3)
                                      (try rw [show ((0 : Int)).toNat = 0 from rfl] at hx149_4)
                                      (try rw [show 0 * 5 = 0 from rfl] at hx149_4)
                                      (try rw [Addr.add_zero'] at hx149_4)
                                      replace p149 := eq_true p149
                                      replace q149 := eq_true q149
                                      have p150 : 0 ≤ ((ji17) : Int) := of_decide_eq_true (by first | (with_reducible assumption) | assumption)
                                      have q150 : (ji17) < (t141.length : Int) := of_decide_eq_true (by first | (with_reducible assumption) | assumption)
                                      obtain ⟨ad150, e150, hx150_0⟩ := Kd.at_int (Kd.R_reads' HO_5.out).2.2 (ji17) p150 q150
                                      obtain rfl : ad144 = ad150 := (by injection e150)
                                      replace p150 := eq_true p150
                                      replace q150 := eq_true q150
                                      have p151 : 0 ≤ (x6_2 : Int) := of_decide_eq_true (by first | (with_reducible assumption) | assumption)
                                      have q151 : x6_2 < (t141.length : Int) := of_decide_eq_true (by first | (with_reducible assumption) | assumption)
                                      obtain ⟨ad151, e151, hx151_0⟩ := Kd.at_int (Kd.R_reads' HO_5.out).2.2 x6_2 p151 q151
                                      obtain rfl : ad144 = ad151 := (by injection e151)
                                      replace p151 := eq_true p151
                                      replace q151 := eq_true q151
                                      go_wp2
                                      repeat (go_quiet (fail); try go_wp2)
                                      go_ret
                                      exact ⟨by first | rfl | (simp [errW_none, errW_some] <;> rfl) | (simp only [← hji17]; first | rfl | (simp [errW_none, errW_some] <;> rfl)) | (simp [*, errW_none, errW_some] <;> rfl), by repeat (first | (with_reducible first | exact HB.out | apply below_alloc | apply pw_below_drewN | apply below_drew1) | exact HB.out)⟩
                                    · rw [if_neg c29] at H
                                      have c29b0 : decide ((rd t141 x6_2) < (rd t141 (ji17))) = false := decide_eq_false c29
                                      clear c29
                                      have H' := Aside0.mk H
                                      clear H
                                      have p144 : 0 ≤ ((ji17) : Int) := of_decide_eq_true (by first | (with_reducible assumption) | assumption)
                                      have q144 : (ji17) < (t141.length : Int) := of_decide_eq_true (by first | (with_reducible assumption) | assumption)
                                      obtain ⟨ad144, e144, hx144_0⟩ := Kd.at_int (Kd.R_reads' HO_5.out).2.2 (ji17) p144 q144
                                      cases e144
                                      replace p144 := eq_true p144
                                      replace q144 := eq_true q144
                                      have p145 : 0 ≤ ((rd t141 (ji17)) : Int) := of_decide_eq_true (by first | (with_reducible assumption) | assumption)
                                      have q145 : (rd t141 (ji17)) < (x3_1.length : Int) := of_decide_eq_true (by first | (with_reducible assumption) | assumption)
                                      obtain ⟨ad145, A145_0, c145_0, e145, hx145_0, hl145_0, hi145_0⟩ := at_L5 (Kd.S_reads' HO_3.out).2.2 (rd t141 (ji17)) p145 q145
                                      cases e145
                                      obtain ⟨ce145, hce145, hMe145, hcc145⟩ := Kd.S_get HO_3.out [] (rd t141 (ji17)) p145 (by first | exact q145 | exact of_decide_eq_true (by first | (with_reducible assumption) | assumption) | (have e_ := (Kd.S_reads' HO_3.out).1; omega))
                                      obtain ⟨ve145_0, rfl, ge145_0⟩ := hMe145
                                      have hv145_0 := hcc145 0 _ rfl
                                      rw [Nat.add_zero, show ((Kd.slice 41 k41)).sz = 1 from rfl, Nat.mul_one] at hv145_0
                                      replace hv145_0 := Option.some.inj (hv145_0.symm.trans hx145_0)
                                      rw [hv145_0] at ge145_0
                                      have HL145_0 := Aside0.mk (show Kd.R k41 41 _ _ _ _ (rd_L5 x3_1 (rd t141 (ji17))) from ge145_0)
                                      clear hv145_0 ge145_0
                                      clear hcc145 hce145
                                      have HR145_0 := Aside0.mk hi145_0
                                      have HC145_0 := Aside0.mk hl145_0
                                      clear hi145_0 hl145_0
                                      replace p145 := eq_true p145
                                      replace q145 := eq_true q145
                                      have p146 : 0 ≤ (0 : Int) := (by omega)
                                      have q146 : 0 < ((rd_L5 x3_1 (rd t141 (ji17))).length : Int) := of_decide_eq_true (by first | (with_reducible assumption) | assumption)
                                      obtain ⟨ad146, e146, hx146_0, hx146_1, hx146_2, hx146_3, hx146_4⟩ := at_T41 (by repeat (first | (with_reducible exact HR145_0.out) | (with_reducible refine Kd.C_alloc ?_ _) | (with_reducible refine Kd.C_drewN ?_ _) | (with_reducible refine Kd.C_drew ?_) | exact HR145_0.out)) 0 p146 q146
                                      cases e146
                                      have qi146 : (0 < (rd_L5 x3_1 (rd t141 (ji17))).length) = True := eq_true (by omega)
                                      (try rw [show ((0 : Int)).toNat = 0 from rfl] at hx146_0)
                                      (try rw [show 0 * 5 = 0 from rfl] at hx146_0)
                                      (try rw [Addr.add_zero'] at hx146_0)
                                      (try rw [show ((0 : Int)).toNat = 0 from rfl] at hx146_1)
                                      (try rw [show 0 * 5 = 0 from rfl] at hx146_1)
                                      (try rw [Addr.add_zero'] at hx146_1)
                                      (try rw [show ((0 : Int)).toNat = 0 from rfl] at hx146_2)
                                      (try rw [show 0 * 5 = 0 from rfl] at hx146_2)
                                      (try rw [Addr.add_zero'] at hx146_2)
                                      (try rw [show ((0 : Int)).toNat = 0 from rfl] at hx146_3)
                                      (try rw [show 0 * 5 = 0 from rfl] at hx146_3)
                                      (try rw [Addr.add_zero'] at hx146_3)
                                      (try rw [show ((0 : Int)).toNat = 0 from rfl] at hx146_4)
                                      (try rw [show 0 * 5 = 0 from rfl] at hx146_4)
                                      (try rw [Addr.add_zero'] at hx146_4)
                                      replace p146 := eq_true p146
                                      replace q146 := eq_true q146
                                      have p147 : 0 ≤ (x6_2 : Int) := of_decide_eq_true (by first | (with_reducible assumption) | assumption)
                                      have q147 : x6_2 < (t141.length : Int) := of_decide_eq_true (by first | (with_reducible assumption) | assumption)
                                      obtain ⟨ad147, e147, hx147_0⟩ := Kd.at_int (Kd.R_reads' HO_5.out).2.2 x6_2 p147 q147
                                      obtain rfl : ad144 = ad147 := (by injection e147)
                                      replace p147 := eq_true p147
                                      replace q147 := eq_true q147
                                      have p148 : 0 ≤ ((rd t141 x6_2) : Int) := of_decide_eq_true (by first | (with_reducible assumption) | assumption)
                                      have q148 : (rd t141 x6_2) < (x3_1.length : Int) := of_decide_eq_true (by first | (with_reducible assumption) | assumption)
                                      obtain ⟨ad148, A148_0, c148_0, e148, hx148_0, hl148_0, hi148_0⟩ := at_L5 (Kd.S_reads' HO_3.out).2.2 (rd t141 x6_2) p148 q148
                                      obtain rfl : ad145 = ad148 := (by injection e148)
                                      obtain ⟨ce148, hce148, hMe148, hcc148⟩ := Kd.S_get HO_3.out [] (rd t141 x6_2) p148 (by first | exact q148 | exact of_decide_eq_true (by first | (with_reducible assumption) | assumption) | (have e_ := (Kd.S_reads' HO_3.out).1; omega))
                                      obtain ⟨ve148_0, rfl, ge148_0⟩ := hMe148
                                      have hv148_0 := hcc148 0 _ rfl
                                      rw [Nat.add_zero, show ((Kd.slice 41 k41)).sz = 1 from rfl, Nat.mul_one] at hv148_0
                                      replace hv148_0 := Option.some.inj (hv148_0.symm.trans hx148_0)
                                      rw [hv148_0] at ge148_0
                                      have HL148_0 := Aside0.mk (show Kd.R k41 41 _ _ _ _ (rd_L5 x3_1 (rd t141 x6_2)) from ge148_0)
                                      clear hv148_0 ge148_0
                                      clear hcc148 hce148
                                      have HR148_0 := Aside0.mk hi148_0
                                      have HC148_0 := Aside0.mk hl148_0
                                      clear hi148_0 hl148_0
                                      replace p148 := eq_true p148
                                      replace q148 := eq_true q148
                                      have p149 : 0 ≤ (0 : Int) := (by omega)
                                      have q149 : 0 < ((rd_L5 x3_1 (rd t141 x6_2)).length : Int) := of_decide_eq_true (by first | (with_reducible assumption) | assumption)
                                      obtain ⟨ad149, e149, hx149_0, hx149_1, hx149_2, hx149_3, hx149_4⟩ := at_T41 (by repeat (first | (with_reducible exact HR148_0.out) | (with_reducible refine Kd.C_alloc ?_ _) | (with_reducible refine Kd.C_drewN ?_ _) | (with_reducible refine Kd.C_drew ?_) | exact HR148_0.out)) 0 p149 q149
                                      cases e149
                                      have qi149 : (0 < (rd_L5 x3_1 (rd t141 x6_2)).length) = True := eq_true (by omega)
                                      (try rw [show ((0 : Int)).toNat = 0 from rfl] at hx149_0)
                                      (try rw [show 0 * 5 = 0 from rfl] at hx149_0)
                                      (try rw [Addr.add_zero'] at hx149_0)
                                      (try rw [show ((0 : Int)).toNat = 0 from rfl] at hx149_1)
                                      (try rw [show 0 * 5 = 0 from rfl] at hx149_1)
                                      (try rw [Addr.add_zero'] at hx149_1)
                                      (try rw [show ((0 : Int)).toNat = 0 from rfl] at hx149_2)
                                      (try rw [show 0 * 5 = 0 from rfl] at hx149_2)
                                      (try rw [Addr.add_zero'] at hx149_2)
                                      (try rw [show ((0 : Int)).toNat = 0 from rfl] at hx149_3)
                                      (try rw [show 0 * 5 = 0 from rfl] at hx149_3)
                                      (try rw [Addr.add_zero'] at hx149_3)
                                      (try rw [show ((0 : Int)).toNat = 0 from rfl] at hx149_4)
                                      (try rw [show 0 * 5 = 0 from rfl] at hx149_4)
                                      (try rw [Addr.add_zero'] at hx149_4)
                                      replace p149 := eq_true p149
                                      replace q149 := eq_true q149
                                      have p150 : 0 ≤ ((ji17) : Int) := of_decide_eq_true (by first | (with_reducible assumption) | assumption)
                                      have q150 : (ji17) < (t141.length : Int) := of_decide_eq_true (by first | (with_reducible assumption) | assumption)
                                      obtain ⟨ad150, e150, hx150_0⟩ := Kd.at_int (Kd.R_reads' HO_5.out).2.2 (ji17) p150 q150
                                      obtain rfl : ad144 = ad150 := (by injection e150)
                                      replace p150 := eq_true p150
                                      replace q150 := eq_true q150
                                      have p151 : 0 ≤ (x6_2 : Int) := of_decide_eq_true (by first | (with_reducible assumption) | assumption)
                                      have q151 : x6_2 < (t141.length : Int) := of_decide_eq_true (by first | (with_reducible assumption) | assumption)
                                      obtain ⟨ad151, e151, hx151_0⟩ := Kd.at_int (Kd.R_reads' HO_5.out).2.2 x6_2 p151 q151
                                      obtain rfl : ad144 = ad151 := (by injection e151)
                                      replace p151 := eq_true p151
                                      replace q151 := eq_true q151
                                      go_wp2
                                      repeat (go_quiet (fail); try go_wp2)
                                      go_roundg k2
                                      case measure => have := HJ1.out; have := HK2.out; omega
                                      case rel => exact ⟨(wrap64 (x6_2 + 1)), (by first | rfl | (simp; done) | (simp [*]; done)), H', ⟨by have := HJ1.out; have := HK2.out; omega⟩, ⟨by (with_reducible repeat (first | apply Kd.S_alloc | apply Kd.S_drewN | apply Kd.S_drew)); exact HO_3.out⟩, ⟨by (with_reducible repeat (first | apply Kd.R_alloc | apply Kd.R_drewN | apply Kd.R_drew)); exact HO_5.out⟩, ⟨by repeat (first | (with_reducible first | exact HB.out | apply below_alloc | apply pw_below_drewN | apply below_drew1) | exact HB.out)⟩⟩
                                  · rw [if_neg c28] at H
                                    have c28b0 : (((rd_T41 (rd_L5 x3_1 (rd t141 (ji17))) 0).f2).toList == ((rd_T41 (rd_L5 x3_1 (rd t141 x6_2)) 0).f2).toList) = false := beq_eq_false_iff_ne.mpr c28
                                    have c28b1 : (((rd_T41 (rd_L5 x3_1 (rd t141 (ji17))) 0).f2).toList != ((rd_T41 (rd_L5 x3_1 (rd t141 x6_2)) 0).f2).toList) = true := bne_iff_ne.mpr c28
                                    have H' := Aside0.mk H
                                    clear H
                                    have p144 : 0 ≤ ((ji17) : Int) := of_decide_eq_true (by first | (with_reducible assumption) | assumption)
                                    have q144 : (ji17) < (t141.length : Int) := of_decide_eq_true (by first | (with_reducible assumption) | assumption)
                                    obtain ⟨ad144, e144, hx144_0⟩ := Kd.at_int (Kd.R_reads' HO_5.out).2.2 (ji17) p144 q144
                                    cases e144
                                    replace p144 := eq_true p144
                                    replace q144 := eq_true q144
                                    have p145 : 0 ≤ ((rd t141 (ji17)) : Int) := of_decide_eq_true (by first | (with_reducible assumption) | assumption)
                                    have q145 : (rd t141 (ji17)) < (x3_1.length : Int) := of_decide_eq_true (by first | (with_reducible assumption) | assumption)
                                    obtain ⟨ad145, A145_0, c145_0, e145, hx145_0, hl145_0, hi145_0⟩ := at_L5 (Kd.S_reads' HO_3.out).2.2 (rd t141 (ji17)) p145 q145
                                    cases e145
                                    obtain ⟨ce145, hce145, hMe145, hcc145⟩ := Kd.S_get HO_3.out [] (rd t141 (ji17)) p145 (by first | exact q145 | exact of_decide_eq_true (by first | (with_reducible assumption) | assumption) | (have e_ := (Kd.S_reads' HO_3.out).1; omega))
                                    obtain ⟨ve145_0, rfl, ge145_0⟩ := hMe145
                                    have hv145_0 := hcc145 0 _ rfl
                                    rw [Nat.add_zero, show ((Kd.slice 41 k41)).sz = 1 from rfl, Nat.mul_one] at hv145_0
                                    replace hv145_0 := Option.some.inj (hv145_0.symm.trans hx145_0)
                                    rw [hv145_0] at ge145_0
                                    have HL145_0 := Aside0.mk (show Kd.R k41 41 _ _ _ _ (rd_L5 x3_1 (rd t141 (ji17))) from ge145_0)
                                    clear hv145_0 ge145_0
                                    clear hcc145 hce145
                                    have HR145_0 := Aside0.mk hi145_0
                                    have HC145_0 := Aside0.mk hl145_0
                                    clear hi145_0 hl145_0
                                    replace p145 := eq_true p145
                                    replace q145 := eq_true q145
                                    have p146 : 0 ≤ (0 : Int) := (by omega)
                                    have q146 : 0 < ((rd_L5 x3_1 (rd t141 (ji17))).length : Int) := of_decide_eq_true (by first | (with_reducible assumption) | assumption)
                                    obtain ⟨ad146, e146, hx146_0, hx146_1, hx146_2, hx146_3, hx146_4⟩ := at_T41 (by repeat (first | (with_reducible exact HR145_0.out) | (with_reducible refine Kd.C_alloc ?_ _) | (with_reducible refine Kd.C_drewN ?_ _) | (with_reducible refine Kd.C_drew ?_) | exact HR145_0.out)) 0 p146 q146
                                    cases e146
                                    have qi146 : (0 < (rd_L5 x3_1 (rd t141 (ji17))).length) = True := eq_true (by omega)
                                    (try rw [show ((0 : Int)).toNat = 0 from rfl] at hx146_0)
                                    (try rw [show 0 * 5 = 0 from rfl] at hx146_0)
                                    (try rw [Addr.add_zero'] at hx146_0)
                                    (try rw [show ((0 : Int)).toNat = 0 from rfl] at hx146_1)
                                    (try rw [show 0 * 5 = 0 from rfl] at hx146_1)
                                    (try rw [Addr.add_zero'] at hx146_1)
                                    (try rw [show ((0 : Int)).toNat = 0 from rfl] at hx146_2)
                                    (try rw [show 0 * 5 = 0 from rfl] at hx146_2)
                                    (try rw [Addr.add_zero'] at hx146_2)
                                    (try rw [show ((0 : Int)).toNat = 0 from rfl] at hx146_3)
                                    (try rw [show 0 * 5 = 0 from rfl] at hx146_3)
                                    (try rw [Addr.add_zero'] at hx146_3)
                                    (try rw [show ((0 : Int)).toNat = 0 from rfl] at hx146_4)
                                    (try rw [show 0 * 5 = 0 from rfl] at hx146_4)
                                    (try rw [Addr.add_zero'] at hx146_4)
                                    replace p146 := eq_true p146
                                    replace q146 := eq_true q146
                                    have p147 : 0 ≤ (x6_2 : Int) := of_decide_eq_true (by first | (with_reducible assumption) | assumption)
                                    have q147 : x6_2 < (t141.length : Int) := of_decide_eq_true (by first | (with_reducible assumption) | assumption)
                                    obtain ⟨ad147, e147, hx147_0⟩ := Kd.at_int (Kd.R_reads' HO_5.out).2.2 x6_2 p147 q147
                                    obtain rfl : ad144 = ad147 := (by injection e147)
                                    replace p147 := eq_true p147
                                    replace q147 := eq_true q147
                                    have p148 : 0 ≤ ((rd t141 x6_2) : Int) := of_decide_eq_true (by first | (with_reducible assumption) | assumption)
                                    have q148 : (rd t141 x6_2) < (x3_1.length : Int) := of_decide_eq_true (by first | (with_reducible assumption) | assumption)
                                    obtain ⟨ad148, A148_0, c148_0, e148, hx148_0, hl148_0, hi148_0⟩ := at_L5 (Kd.S_reads' HO_3.out).2.2 (rd t141 x6_2) p148 q148
                                    obtain rfl : ad145 = ad148 := (by injection e148)
                                    obtain ⟨ce148, hce148, hMe148, hcc148⟩ := Kd.S_get HO_3.out [] (rd t141 x6_2) p148 (by first | exact q148 | exact of_decide_eq_true (by first | (with_reducible assumption) | assumption) | (have e_ := (Kd.S_reads' HO_3.out).1; omega))
                                    obtain ⟨ve148_0, rfl, ge148_0⟩ := hMe148
                                    have hv148_0 := hcc148 0 _ rfl
                                    rw [Nat.add_zero, show ((Kd.slice 41 k41)).sz = 1 from rfl, Nat.mul_one] at hv148_0
                                    replace hv148_0 := Option.some.inj (hv148_0.symm.trans hx148_0)
                                    rw [hv148_0] at ge148_0
                                    have HL148_0 := Aside0.mk (show Kd.R k41 41 _ _ _ _ (rd_L5 x3_1 (rd t141 x6_2)) from ge148_0)
                                    clear hv148_0 ge148_0
                                    clear hcc148 hce148
                                    have HR148_0 := Aside0.mk hi148_0
                                    have HC148_0 := Aside0.mk hl148_0
                                    clear hi148_0 hl148_0
                                    replace p148 := eq_true p148
                                    replace q148 := eq_true q148
                                    have p149 : 0 ≤ (0 : Int) := (by omega)
                                    have q149 : 0 < ((rd_L5 x3_1 (rd t141 x6_2)).length : Int) := of_decide_eq_true (by first | (with_reducible assumption) | assumption)
                                    obtain ⟨ad149, e149, hx149_0, hx149_1, hx149_2, hx149_3, hx149_4⟩ := at_T41 (by repeat (first | (with_reducible exact HR148_0.out) | (with_reducible refine Kd.C_alloc ?_ _) | (with_reducible refine Kd.C_drewN ?_ _) | (with_reducible refine Kd.C_drew ?_) | exact HR148_0.out)) 0 p149 q149
                                    cases e149
                                    have qi149 : (0 < (rd_L5 x3_1 (rd t141 x6_2)).length) = True := eq_true (by omega)
                                    (try rw [show ((0 : Int)).toNat = 0 from rfl] at hx149_0)
                                    (try rw [show 0 * 5 = 0 from rfl] at hx149_0)
                                    (try rw [Addr.add_zero'] at hx149_0)
                                    (try rw [show ((0 : Int)).toNat = 0 from rfl] at hx149_1)
                                    (try rw [show 0 * 5 = 0 from rfl] at hx149_1)
                                    (try rw [Addr.add_zero'] at hx149_1)
                                    (try rw [show ((0 : Int)).toNat = 0 from rfl] at hx149_2)
                                    (try rw [show 0 * 5 = 0 from rfl] at hx149_2)
                                    (try rw [Addr.add_zero'] at hx149_2)
                                    (try rw [show ((0 : Int)).toNat = 0 from rfl] at hx149_3)
                                    (try rw [show 0 * 5 = 0 from rfl] at hx149_3)
                                    (try rw [Addr.add_zero'] at hx149_3)
                                    (try rw [show ((0 : Int)).toNat = 0 from rfl] at hx149_4)
                                    (try rw [show 0 * 5 = 0 from rfl] at hx149_4)
                                    (try rw [Addr.add_zero'] at hx149_4)
                                    replace p149 := eq_true p149
                                    replace q149 := eq_true q149
                                    go_wp2
                                    repeat (go_quiet (fail); try go_wp2)
                                    go_roundg k2
                                    case measure => have := HJ1.out; have := HK2.out; omega
                                    case rel => exact ⟨(wrap64 (x6_2 + 1)), (by first | rfl | (simp; done) | (simp [*]; done)), H', ⟨by have := HJ1.out; have := HK2.out; omega⟩, ⟨by (with_reducible repeat (first | apply Kd.S_alloc | apply Kd.S_drewN | apply Kd.S_drew)); exact HO_3.out⟩, ⟨by (with_reducible repeat (first | apply Kd.R_alloc | apply Kd.R_drewN | apply Kd.R_drew)); exact HO_5.out⟩, ⟨by repeat (first | (with_reducible first | exact HB.out | apply below_alloc | apply pw_below_drewN | apply below_drew1) | exact HB.out)⟩⟩
                              · rw [if_neg c26] at H
                                exact absurd H (by simp)
                            · rw [if_neg c25] at H
                              exact absurd H (by simp)
                          · rw [if_neg c24] at H
                            exact absurd H (by simp)
                        · rw [if_neg c23] at H
                          exact absurd H (by simp)
                      · rw [if_neg c22] at H
                        exact absurd H (by simp)
                    · rw [if_neg c21] at H
                      exact absurd H (by simp)
                  · rw [if_neg c20] at H
                    exact absurd H (by simp)
                · rw [if_neg c19] at H
                  exact absurd H (by simp)
              · rw [if_neg c18] at H
                exact absurd H (by simp)
            · rw [if_neg c16] at H
              have c16b0 : decide (x6_2 < (t141.length : Int)) = false := decide_eq_false c16
              clear c16
              replace H := Option.bind_eq_some_iff.mp H
              obtain ⟨t152, A300, H⟩ := H
              replace H : (some t152) = some r := H
              have A30 := Aside0.mk A300
              clear A300
              obtain rfl := Option.some.inj H
              go_wp2_with (first | (go_at_call 10; (with_reducible refine (stencillaw13_live.calls k2  t152 _ ?side1 A30.out).mono ?_); (case side1 => first | exact HLD | exact Laid.below HLD (by repeat (first | (with_reducible first | exact HB.out | apply below_alloc | apply pw_below_drewN | apply below_drew1) | exact HB.out))); rintro e w31 ⟨rfl, hb⟩; have n0_ := Aside0.mk (Kd.S_below (by (with_reducible repeat (first | apply Kd.S_alloc | apply Kd.S_drewN | apply Kd.S_drew)); exact HO_3.out) hb); have n1_ := Aside0.mk (Kd.R_below (by (with_reducible repeat (first | apply Kd.R_alloc | apply Kd.R_drewN | apply Kd.R_drew)); exact HO_5.out) hb); have n2_ := Aside0.mk (below_step (by repeat (first | (with_reducible first | exact HB.out | apply below_alloc | apply pw_below_drewN | apply below_drew1) | exact HB.out)) hb); clear HO_3; clear HO_5; clear HB; have HO_3 := n0_; have HO_5 := n1_; have HB := n2_; clear n0_ n1_ n2_; (try clear hb); (try clear hb2); (try clear hk); (try clear hi)))
              repeat (go_quiet (first | (go_at_call 10; (with_reducible refine (stencillaw13_live.calls k2  t152 _ ?side1 A30.out).mono ?_); (case side1 => first | exact HLD | exact Laid.below HLD (by repeat (first | (with_reducible first | exact HB.out | apply below_alloc | apply pw_below_drewN | apply below_drew1) | exact HB.out))); rintro e w31 ⟨rfl, hb⟩; have n0_ := Aside0.mk (Kd.S_below (by (with_reducible repeat (first | apply Kd.S_alloc | apply Kd.S_drewN | apply Kd.S_drew)); exact HO_3.out) hb); have n1_ := Aside0.mk (Kd.R_below (by (with_reducible repeat (first | apply Kd.R_alloc | apply Kd.R_drewN | apply Kd.R_drew)); exact HO_5.out) hb); have n2_ := Aside0.mk (below_step (by repeat (first | (with_reducible first | exact HB.out | apply below_alloc | apply pw_below_drewN | apply below_drew1) | exact HB.out)) hb); clear HO_3; clear HO_5; clear HB; have HO_3 := n0_; have HO_5 := n1_; have HB := n2_; clear n0_ n1_ n2_; (try clear hb); (try clear hb2); (try clear hk); (try clear hi))); try go_wp2_with (first | (go_at_call 10; (with_reducible refine (stencillaw13_live.calls k2  t152 _ ?side1 A30.out).mono ?_); (case side1 => first | exact HLD | exact Laid.below HLD (by repeat (first | (with_reducible first | exact HB.out | apply below_alloc | apply pw_below_drewN | apply below_drew1) | exact HB.out))); rintro e w31 ⟨rfl, hb⟩; have n0_ := Aside0.mk (Kd.S_below (by (with_reducible repeat (first | apply Kd.S_alloc | apply Kd.S_drewN | apply Kd.S_drew)); exact HO_3.out) hb); have n1_ := Aside0.mk (Kd.R_below (by (with_reducible repeat (first | apply Kd.R_alloc | apply Kd.R_drewN | apply Kd.R_drew)); exact HO_5.out) hb); have n2_ := Aside0.mk (below_step (by repeat (first | (with_reducible first | exact HB.out | apply below_alloc | apply pw_below_drewN | apply below_drew1) | exact HB.out)) hb); clear HO_3; clear HO_5; clear HB; have HO_3 := n0_; have HO_5 := n1_; have HB := n2_; clear n0_ n1_ n2_; (try clear hb); (try clear hb2); (try clear hk); (try clear hi))))
              go_ret
              exact ⟨by first | rfl | (simp [errW_none, errW_some] <;> rfl) | (simp [*, errW_none, errW_some] <;> rfl), by repeat (first | (with_reducible first | exact HB.out | apply below_alloc | apply pw_below_drewN | apply below_drew1) | exact HB.out)⟩
      · rw [if_neg c12] at H
        have c12b0 : ((t141.length : Int) == (x3_1.length : Int)) = false := beq_eq_false_iff_ne.mpr c12
        have c12b1 : ((t141.length : Int) != (x3_1.length : Int)) = true := bne_iff_ne.mpr c12
        have c12b2 : (t141.length == x3_1.length) = false := by first | simpa using c12 | (simp at c12 ⊢; omega)
        obtain rfl := Option.some.inj H
        obtain ⟨Ao32, co32, eo32⟩ := Kd.S_slice HO_3.out
        subst eo32
        go_wp2_with (first | (go_at_call 17; (with_reducible refine (xsort_Order.calls kj1 _ _ x3_1 t141 _ ?side1 ?side2 ?side3 A11.out).mono ?_); (case side1 => repeat (first | exact (Kd.S_reads' HO_3.out).2.2 | (with_reducible refine Kd.C_alloc ?_ _) | (with_reducible refine Kd.C_drewN ?_ _) | (with_reducible refine Kd.C_drew ?_))); (case side2 => exact (Kd.S_reads' HO_3.out).2.1); (case side3 => first | exact HLD | exact Laid.below HLD (by repeat (first | (with_reducible first | exact HB.out | apply below_alloc | apply pw_below_drewN | apply below_drew1) | exact HB.out))); rintro e w33 ⟨v142, rfl, ho0, hb⟩; have n0_ := Aside0.mk (Kd.S_below (by (with_reducible repeat (first | apply Kd.S_alloc | apply Kd.S_drewN | apply Kd.S_drew)); exact HO_3.out) hb); have n1_ := Aside0.mk (Kd.R_lower ho0 (below_size (by repeat (first | (with_reducible first | exact HB.out | apply below_alloc | apply pw_below_drewN | apply below_drew1) | exact HB.out)))); have n2_ := Aside0.mk (below_step (by repeat (first | (with_reducible first | exact HB.out | apply below_alloc | apply pw_below_drewN | apply below_drew1) | exact HB.out)) hb); clear HO_3; clear HB; have HO_3 := n0_; have HO143 := n1_; have HB := n2_; clear n0_ n1_ n2_; (try clear hb); (try clear hb2); (try clear hk); (try clear hi); (try clear ho0); obtain ⟨Ao34, co34, eo34⟩ := Kd.R_slice HO143.out; subst eo34))
        repeat (go_quiet (first | (go_at_call 17; (with_reducible refine (xsort_Order.calls kj1 _ _ x3_1 t141 _ ?side1 ?side2 ?side3 A11.out).mono ?_); (case side1 => repeat (first | exact (Kd.S_reads' HO_3.out).2.2 | (with_reducible refine Kd.C_alloc ?_ _) | (with_reducible refine Kd.C_drewN ?_ _) | (with_reducible refine Kd.C_drew ?_))); (case side2 => exact (Kd.S_reads' HO_3.out).2.1); (case side3 => first | exact HLD | exact Laid.below HLD (by repeat (first | (with_reducible first | exact HB.out | apply below_alloc | apply pw_below_drewN | apply below_drew1) | exact HB.out))); rintro e w33 ⟨v142, rfl, ho0, hb⟩; have n0_ := Aside0.mk (Kd.S_below (by (with_reducible repeat (first | apply Kd.S_alloc | apply Kd.S_drewN | apply Kd.S_drew)); exact HO_3.out) hb); have n1_ := Aside0.mk (Kd.R_lower ho0 (below_size (by repeat (first | (with_reducible first | exact HB.out | apply below_alloc | apply pw_below_drewN | apply below_drew1) | exact HB.out)))); have n2_ := Aside0.mk (below_step (by repeat (first | (with_reducible first | exact HB.out | apply below_alloc | apply pw_below_drewN | apply below_drew1) | exact HB.out)) hb); clear HO_3; clear HB; have HO_3 := n0_; have HO143 := n1_; have HB := n2_; clear n0_ n1_ n2_; (try clear hb); (try clear hb2); (try clear hk); (try clear hi); (try clear ho0); obtain ⟨Ao34, co34, eo34⟩ := Kd.R_slice HO143.out; subst eo34)); try go_wp2_with (first | (go_at_call 17; (with_reducible refine (xsort_Order.calls kj1 _ _ x3_1 t141 _ ?side1 ?side2 ?side3 A11.out).mono ?_); (case side1 => repeat (first | exact (Kd.S_reads' HO_3.out).2.2 | (with_reducible refine Kd.C_alloc ?_ _) | (with_reducible refine Kd.C_drewN ?_ _) | (with_reducible refine Kd.C_drew ?_))); (case side2 => exact (Kd.S_reads' HO_3.out).2.1); (case side3 => first | exact HLD | exact Laid.below HLD (by repeat (first | (with_reducible first | exact HB.out | apply below_alloc | apply pw_below_drewN | apply below_drew1) | exact HB.out))); rintro e w33 ⟨v142, rfl, ho0, hb⟩; have n0_ := Aside0.mk (Kd.S_below (by (with_reducible repeat (first | apply Kd.S_alloc | apply Kd.S_drewN | apply Kd.S_drew)); exact HO_3.out) hb); have n1_ := Aside0.mk (Kd.R_lower ho0 (below_size (by repeat (first | (with_reducible first | exact HB.out | apply below_alloc | apply pw_below_drewN | apply below_drew1) | exact HB.out)))); have n2_ := Aside0.mk (below_step (by repeat (first | (with_reducible first | exact HB.out | apply below_alloc | apply pw_below_drewN | apply below_drew1) | exact HB.out)) hb); clear HO_3; clear HB; have HO_3 := n0_; have HO143 := n1_; have HB := n2_; clear n0_ n1_ n2_; (try clear hb); (try clear hb2); (try clear hk); (try clear hi); (try clear ho0); obtain ⟨Ao34, co34, eo34⟩ := Kd.R_slice HO143.out; subst eo34)))
        go_ret
        exact ⟨by first | rfl | (simp [errW_none, errW_some] <;> rfl) | (simp [*, errW_none, errW_some] <;> rfl), by repeat (first | (with_reducible first | exact HB.out | apply below_alloc | apply pw_below_drewN | apply below_drew1) | exact HB.out)⟩

end Go.Proofs.YthedigbdkjcpfaaDoor.Print
