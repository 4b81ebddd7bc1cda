-- Laid by xprint.py (ours), out of the seat's translation; Lean checks it.
import Derived.Test.YtfbmojnndbbojaaGreatDoorWInv
import Derived.Test.YtfbmojnndbbojaaGreatDoorPrint0
import Derived.Test.YtfbmojnndbbojaaGreatDoorPrinte1
import Derived.Test.YtfbmojnndbbojaaGreatDoorPrintf11
import Derived.Test.YtfbmojnndbbojaaGreatDoorPrintf25
namespace Go.Proofs.YtfbmojnndbbojaaGreatDoor.Print
open Go.RowKit Go.Proofs.YtfbmojnndbbojaaGreatDoorW.PrintWords Go.Proofs.YtfbmojnndbbojaaGreatDoorW.PrintLast Go.Proofs.YtfbmojnndbbojaaGreatDoorW.PrintMore
attribute [local go_sem] max2_int min2_int max_two min_two max_three min_three max_four min_four   -- for this text's walks alone
open Go.Proofs.YtfbmojnndbbojaaGreatDoor.Plain
set_option linter.unusedVariables false
set_option linter.unusedSimpArgs false

attribute [local go_sem high] eqA24
/-! ### stencillaw02_XnumWhole: function 7 -/
def stencillaw02_XnumWhole.f (k : Nat) (a0_0 : Int) (a0_1 : Int) (a1 : Int) : Option (Bool) := (xnum_Floor.f a0_0 a0_1).bind fun bt312 => ((xnum_Ceiling.f k a0_0 a0_1).bind fun bt314 => ((xnum_Round.f a0_0 a0_1).bind fun bt316 => ((xnum_Right.f a0_0 a0_1).bind fun t321 => ((stencilref02_Right.f a0_0 a0_1).bind fun t322 => (if (t321 != t322) = true then (some false) else ((stencilref02_Right.f a0_0 a0_1).bind fun t323 => (if t323 = true then ((stencillaw02_live.f k).bind fun t325 => (if t325 = true then ((stencilref02_Floor.f a0_0 a0_1).bind fun bt326 => (if (bt312.1 == bt326.1 && (bt312.2 == bt326.2)) = true then ((stencilref02_Ceiling.f a0_0 a0_1).bind fun bt328 => (if (bt314.1 == bt328.1 && (bt314.2 == bt328.2)) = true then ((stencilref02_Round.f a0_0 a0_1).bind fun bt330 => (if (bt316.1 == bt330.1 && (bt316.2 == bt330.2)) = true then ((xnum_Int.f a1).bind fun bt332 => ((stencilref02_Int.f a1).bind fun bt334 => (some (bt332.1 == bt334.1 && (bt332.2 == bt334.2))))) else (none))) else (none))) else (none))) else (none))) else ((stencillaw02_live.f k).bind fun t324 => (some t324)))))))))
theorem stencillaw02_XnumWhole.mono : ∀ a0 a1 a2 k, LeO (stencillaw02_XnumWhole.f k a0 a1 a2) (stencillaw02_XnumWhole.f (k + 1) a0 a1 a2) := by
  intro a0 a1 a2 k
  unfold stencillaw02_XnumWhole.f
  repeat' first
      | (with_reducible exact stencillaw02_live.mono _)
      | (with_reducible exact xnum_Ceiling.mono _ _ _)
      | (with_reducible exact LeO.refl _)
      | (with_reducible exact LeO.none _)
      | (with_reducible refine LeO.ite ?_ ?_)
      | (with_reducible refine LeO.bind ?_ (fun _ => ?_))
      | exact stencillaw02_live.mono _
      | exact xnum_Ceiling.mono _ _ _
      | exact LeO.none _
      | refine LeO.ite ?_ ?_
      | refine LeO.bind ?_ (fun _ => ?_)
def stencillaw02_XnumWhole.T1 : Bool × List (List Nat × List Nat) := (true, [([], []), ([0], [0]), ([], []), ([2, 1], [2]), ([], []), ([4, 3], [4]), ([], []), ([], []), ([], []), ([6, 1, 5, 0, 1, 6, 7, 8], [1, 6]), ([7, 3, 9, 0, 1, 2, 3, 6, 7, 8, 9], [3, 7]), ([8, 5, 10, 0, 1, 2, 3, 4, 5, 6, 7, 8, 9, 10], [5, 8])])
def stencillaw02_XnumWhole.B1 : List Nat := [0, 1, 0, 7, 0, 31, 0, 0, 0, 511, 1023, 2047]
theorem stencillaw02_XnumWhole.tab1 : rtab .any (opsOf Tryz.f7 1) = stencillaw02_XnumWhole.T1 := by kernel_rfl
theorem stencillaw02_XnumWhole.bits1 : waitsOk stencillaw02_XnumWhole.T1.2 stencillaw02_XnumWhole.B1 = true := by kernel_rfl
def stencillaw02_XnumWhole.T6 : Bool × List (List Nat × List Nat) := (true, [([], []), ([0, 0], [0]), ([1], [1]), ([1], [1]), ([3, 1, 1], [1, 3]), ([2, 4, 1], [1, 2, 4]), ([1, 5], [1, 5]), ([6, 4], [6]), ([7], [7]), ([7], [7]), ([9, 7, 7], [7, 9]), ([8, 10, 7], [7, 8, 10]), ([7, 11], [7, 11]), ([12, 10], [12]), ([13], [13]), ([13], [13]), ([15, 13, 13], [13, 15]), ([14, 16, 13], [13, 14, 16]), ([13, 17], [13, 17]), ([18, 16], [18]), ([19], [19]), ([20, 19, 19], [19, 20]), ([19], [19]), ([22, 21, 19], [19, 22]), ([21, 23, 19], [19, 21, 23]), ([19, 24], [19, 24]), ([25, 23, 0, 1, 2, 3, 4, 5, 6, 7, 8, 9, 10, 11, 12, 13, 14, 15, 16, 17, 18, 19, 20, 21, 22, 23, 24, 25], [25])])
def stencillaw02_XnumWhole.B6 : List Nat := [0, 1, 3, 3, 11, 31, 63, 127, 255, 255, 767, 2047, 4095, 8191, 16383, 16383, 49151, 131071, 262143, 524287, 1048575, 2097151, 1048575, 8388607, 16777215, 33554431, 67108863]
theorem stencillaw02_XnumWhole.tab6 : rtab .any (opsOf Tryz.f7 6) = stencillaw02_XnumWhole.T6 := by kernel_rfl
theorem stencillaw02_XnumWhole.bits6 : waitsOk stencillaw02_XnumWhole.T6.2 stencillaw02_XnumWhole.B6 = true := by kernel_rfl
set_option maxHeartbeats 8000000 in
set_option maxRecDepth 100000 in
theorem stencillaw02_XnumWhole.calls (k : Nat) (a0_0 : Int) (a0_1 : Int) (a1 : Int) (r : Bool) (w : World) (HLD : Laid w) (h : stencillaw02_XnumWhole.f k a0_0 a0_1 a1 = some r) :
    Calls Tryz.prog 7 #[.agg #[.int .i64 a0_0, .int .i64 a0_1], .int .i64 a1] w fun e w' => e = .returned (.bool r) ∧ Below w.heap.size w w' := by
  have hu24 := Tryz.underlying24
  have HB := Aside0.mk (Below.refl w.heap.size w)
  have H : ((xnum_Floor.f a0_0 a0_1).bind fun bt312 => ((xnum_Ceiling.f k a0_0 a0_1).bind fun bt314 => ((xnum_Round.f a0_0 a0_1).bind fun bt316 => ((xnum_Right.f a0_0 a0_1).bind fun t321 => ((stencilref02_Right.f a0_0 a0_1).bind fun t322 => (if (t321 != t322) = true then (some false) else ((stencilref02_Right.f a0_0 a0_1).bind fun t323 => (if t323 = true then ((stencillaw02_live.f k).bind fun t325 => (if t325 = true then ((stencilref02_Floor.f a0_0 a0_1).bind fun bt326 => (if (bt312.1 == bt326.1 && (bt312.2 == bt326.2)) = true then ((stencilref02_Ceiling.f a0_0 a0_1).bind fun bt328 => (if (bt314.1 == bt328.1 && (bt314.2 == bt328.2)) = true then ((stencilref02_Round.f a0_0 a0_1).bind fun bt330 => (if (bt316.1 == bt330.1 && (bt316.2 == bt330.2)) = true then ((xnum_Int.f a1).bind fun bt332 => ((stencilref02_Int.f a1).bind fun bt334 => (some (bt332.1 == bt334.1 && (bt332.2 == bt334.2))))) else (none))) else (none))) else (none))) else (none))) else ((stencillaw02_live.f k).bind fun t324 => (some t324)))))))))) = some r := h
  clear h
  replace H := Option.bind_eq_some_iff.mp H
  obtain ⟨⟨t312, t313⟩, A30, H⟩ := H
  replace H : ((xnum_Ceiling.f k a0_0 a0_1).bind fun bt314 => ((xnum_Round.f a0_0 a0_1).bind fun bt316 => ((xnum_Right.f a0_0 a0_1).bind fun t321 => ((stencilref02_Right.f a0_0 a0_1).bind fun t322 => (if (t321 != t322) = true then (some false) else ((stencilref02_Right.f a0_0 a0_1).bind fun t323 => (if t323 = true then ((stencillaw02_live.f k).bind fun t325 => (if t325 = true then ((stencilref02_Floor.f a0_0 a0_1).bind fun bt326 => (if (t312 == bt326.1 && (t313 == bt326.2)) = true then ((stencilref02_Ceiling.f a0_0 a0_1).bind fun bt328 => (if (bt314.1 == bt328.1 && (bt314.2 == bt328.2)) = true then ((stencilref02_Round.f a0_0 a0_1).bind fun bt330 => (if (bt316.1 == bt330.1 && (bt316.2 == bt330.2)) = true then ((xnum_Int.f a1).bind fun bt332 => ((stencilref02_Int.f a1).bind fun bt334 => (some (bt332.1 == bt334.1 && (bt332.2 == bt334.2))))) else (none))) else (none))) else (none))) else (none))) else ((stencillaw02_live.f k).bind fun t324 => (some t324))))))))) = some r := H
  have A3 := Aside0.mk A30
  clear A30
  replace H := Option.bind_eq_some_iff.mp H
  obtain ⟨⟨t314, t315⟩, A40, H⟩ := H
  replace H : ((xnum_Round.f a0_0 a0_1).bind fun bt316 => ((xnum_Right.f a0_0 a0_1).bind fun t321 => ((stencilref02_Right.f a0_0 a0_1).bind fun t322 => (if (t321 != t322) = true then (some false) else ((stencilref02_Right.f a0_0 a0_1).bind fun t323 => (if t323 = true then ((stencillaw02_live.f k).bind fun t325 => (if t325 = true then ((stencilref02_Floor.f a0_0 a0_1).bind fun bt326 => (if (t312 == bt326.1 && (t313 == bt326.2)) = true then ((stencilref02_Ceiling.f a0_0 a0_1).bind fun bt328 => (if (t314 == bt328.1 && (t315 == bt328.2)) = true then ((stencilref02_Round.f a0_0 a0_1).bind fun bt330 => (if (bt316.1 == bt330.1 && (bt316.2 == bt330.2)) = true then ((xnum_Int.f a1).bind fun bt332 => ((stencilref02_Int.f a1).bind fun bt334 => (some (bt332.1 == bt334.1 && (bt332.2 == bt334.2))))) else (none))) else (none))) else (none))) else (none))) else ((stencillaw02_live.f k).bind fun t324 => (some t324)))))))) = some r := H
  have A4 := Aside0.mk A40
  clear A40
  replace H := Option.bind_eq_some_iff.mp H
  obtain ⟨⟨t316, t317⟩, A50, H⟩ := H
  replace H : ((xnum_Right.f a0_0 a0_1).bind fun t321 => ((stencilref02_Right.f a0_0 a0_1).bind fun t322 => (if (t321 != t322) = true then (some false) else ((stencilref02_Right.f a0_0 a0_1).bind fun t323 => (if t323 = true then ((stencillaw02_live.f k).bind fun t325 => (if t325 = true then ((stencilref02_Floor.f a0_0 a0_1).bind fun bt326 => (if (t312 == bt326.1 && (t313 == bt326.2)) = true then ((stencilref02_Ceiling.f a0_0 a0_1).bind fun bt328 => (if (t314 == bt328.1 && (t315 == bt328.2)) = true then ((stencilref02_Round.f a0_0 a0_1).bind fun bt330 => (if (t316 == bt330.1 && (t317 == bt330.2)) = true then ((xnum_Int.f a1).bind fun bt332 => ((stencilref02_Int.f a1).bind fun bt334 => (some (bt332.1 == bt334.1 && (bt332.2 == bt334.2))))) else (none))) else (none))) else (none))) else (none))) else ((stencillaw02_live.f k).bind fun t324 => (some t324))))))) = some r := H
  have A5 := Aside0.mk A50
  clear A50
  replace H := Option.bind_eq_some_iff.mp H
  obtain ⟨t321, A60, H⟩ := H
  replace H : ((stencilref02_Right.f a0_0 a0_1).bind fun t322 => (if (t321 != t322) = true then (some false) else ((stencilref02_Right.f a0_0 a0_1).bind fun t323 => (if t323 = true then ((stencillaw02_live.f k).bind fun t325 => (if t325 = true then ((stencilref02_Floor.f a0_0 a0_1).bind fun bt326 => (if (t312 == bt326.1 && (t313 == bt326.2)) = true then ((stencilref02_Ceiling.f a0_0 a0_1).bind fun bt328 => (if (t314 == bt328.1 && (t315 == bt328.2)) = true then ((stencilref02_Round.f a0_0 a0_1).bind fun bt330 => (if (t316 == bt330.1 && (t317 == bt330.2)) = true then ((xnum_Int.f a1).bind fun bt332 => ((stencilref02_Int.f a1).bind fun bt334 => (some (bt332.1 == bt334.1 && (bt332.2 == bt334.2))))) else (none))) else (none))) else (none))) else (none))) else ((stencillaw02_live.f k).bind fun t324 => (some t324)))))) = some r := H
  have A6 := Aside0.mk A60
  clear A60
  replace H := Option.bind_eq_some_iff.mp H
  obtain ⟨t322, A70, H⟩ := H
  replace H : (if (t321 != t322) = true then (some false) else ((stencilref02_Right.f a0_0 a0_1).bind fun t323 => (if t323 = true then ((stencillaw02_live.f k).bind fun t325 => (if t325 = true then ((stencilref02_Floor.f a0_0 a0_1).bind fun bt326 => (if (t312 == bt326.1 && (t313 == bt326.2)) = true then ((stencilref02_Ceiling.f a0_0 a0_1).bind fun bt328 => (if (t314 == bt328.1 && (t315 == bt328.2)) = true then ((stencilref02_Round.f a0_0 a0_1).bind fun bt330 => (if (t316 == bt330.1 && (t317 == bt330.2)) = true then ((xnum_Int.f a1).bind fun bt332 => ((stencilref02_Int.f a1).bind fun bt334 => (some (bt332.1 == bt334.1 && (bt332.2 == bt334.2))))) else (none))) else (none))) else (none))) else (none))) else ((stencillaw02_live.f k).bind fun t324 => (some t324))))) = some r := H
  have A7 := Aside0.mk A70
  clear A70
  by_cases c8 : (t321 != t322) = true
  · rw [if_pos c8] at H
    have c8b0 : (t321 != t322) = true := c8
    (try (have c8b1 : decide (t321 = t322) = false := by simpa using c8))
    (try (have c8b2 : (t321 == t322) = false := by simpa using c8))
    (try (have c8b3 : ¬ (t321 = t322) := by simpa using c8))
    clear c8
    obtain rfl := Option.some.inj H
    go_enter Tryz.func7, Tryz.ntmps7
    try go_wp2_with (first | ((with_reducible refine gate_dst (N := 2) rfl ?_); refine box_event ?hg (N := 2) ?hd (cs := #[.int .i64 a0_0, .int .i64 a0_1]) (t := 24) ?hr ?_; (case hd => rfl); (case hg => rfl); (case hr => first | (go_simp; done) | (go_simp; rfl)); intro gb311 hg w9 hbox hb; have n0_ := Aside0.mk (below_step (by repeat (first | (with_reducible first | exact HB.out | apply below_alloc | apply pw_below_drewN | apply below_drew1) | exact HB.out)) hb); have n1_ := Aside0.mk (hbox); have n2_ := Aside0.mk ((by rw [hg]; exact (below_size (by repeat (first | (with_reducible first | exact HB.out | apply below_alloc | apply pw_below_drewN | apply below_drew1) | exact HB.out))) : w.heap.size ≤ gb311)); have n3_ := Aside0.mk ((by rw [hg]; exact (below_size (by repeat (first | (with_reducible first | exact HB.out | apply below_alloc | apply pw_below_drewN | apply below_drew1) | exact HB.out))) : w.heap.size ≤ gb311)); clear HB; have HB := n0_; have BK311 := n1_; have GW311 := n2_; have GE311 := n3_; clear n0_ n1_ n2_ n3_; clear hb hbox hg))
    have n0_ := Aside0.mk (blk_drew BK311.out)
    have n1_ := Aside0.mk (below_drew1 HB.out)
    clear BK311
    clear HB
    have BK311 := n0_
    have HB := n1_
    clear n0_ n1_
    refine start_ (n := 12) (S := fun w' => True) (ds := []) #[false, false, false, false, false, false, false, false, false, false, false, false] (by kernel_rfl) rfl rfl trivial (fun hHeld => ?_); refine with_tabW stencillaw02_XnumWhole.tab1 stencillaw02_XnumWhole.bits1 (fun HT_ HW_ => ?_)
    generalize w9.drew = w10 at BK311 HB hHeld ⊢
    refine inv_at [0, 1, 2, 3, 4, 5, 6, 7, 8, 9, 10, 11] (fun a0_ b a w' => ∃ (gb318 : Nat) (gb319 : Nat) (gb320 : Nat) (m6_ : Value) (m7_ : Value) (m8_ : Value), a = putSel a0_ b [(0, 8, .agg #[.int .i64 a0_0, .int .i64 a0_1]), (1, 9, .agg #[.int .i64 t312, .int .i64 t313]), (2, 10, .agg #[.int .i64 a0_0, .int .i64 a0_1]), (3, 11, .agg #[.int .i64 t314, .int .i64 t315]), (4, 12, .agg #[.int .i64 a0_0, .int .i64 a0_1]), (5, 13, .agg #[.int .i64 t316, .int .i64 t317]), (6, 5, m6_), (7, 6, m7_), (8, 7, m8_)] ∧ (w'.heap[gb311]? = some (.cells #[.int .i64 a0_0, .int .i64 a0_1] 24 (0, 0))) ∧ (Below w.heap.size w w') ∧ (b 6 = true → b 7 = true → gb319 ≠ gb318) ∧ (b 6 = true → b 7 = true → gb318 ≠ gb319) ∧ (b 6 = true → b 8 = true → gb320 ≠ gb318) ∧ (b 6 = true → b 8 = true → gb318 ≠ gb320) ∧ (b 7 = true → b 8 = true → gb320 ≠ gb319) ∧ (b 7 = true → b 8 = true → gb319 ≠ gb320) ∧ (b 6 = true → b 9 = false → w'.heap[gb318]? = some (.cells #[.int .i64 0, .int .i64 0] 24 (0, 0))) ∧ (b 6 = true → w.heap.size ≤ gb318) ∧ (b 6 = true → w.heap.size ≤ gb318) ∧ (b 6 = true → gb311 ≠ gb318) ∧ (b 6 = true → gb318 ≠ gb311) ∧ (b 7 = true → b 10 = false → w'.heap[gb319]? = some (.cells #[.int .i64 0, .int .i64 0] 24 (0, 0))) ∧ (b 7 = true → w.heap.size ≤ gb319) ∧ (b 7 = true → w.heap.size ≤ gb319) ∧ (b 7 = true → gb311 ≠ gb319) ∧ (b 7 = true → gb319 ≠ gb311) ∧ (b 8 = true → b 11 = false → w'.heap[gb320]? = some (.cells #[.int .i64 0, .int .i64 0] 24 (0, 0))) ∧ (b 8 = true → w.heap.size ≤ gb320) ∧ (b 8 = true → w.heap.size ≤ gb320) ∧ (b 8 = true → gb311 ≠ gb320) ∧ (b 8 = true → gb320 ≠ gb311) ∧ (b 9 = true → w'.heap[gb318]? = some (.cells #[.int .i64 t312, .int .i64 t313] 24 (0, 0))) ∧ (b 10 = true → w'.heap[gb319]? = some (.cells #[.int .i64 t314, .int .i64 t315] 24 (0, 0))) ∧ (b 11 = true → w'.heap[gb320]? = some (.cells #[.int .i64 t316, .int .i64 t317] 24 (0, 0))) ∧ (b 6 = true → (m6_ : Value) = .pointer (some ⟨gb318, 0, none⟩)) ∧ (b 7 = true → (m7_ : Value) = .pointer (some ⟨gb319, 0, none⟩)) ∧ (b 8 = true → (m8_ : Value) = .pointer (some ⟨gb320, 0, none⟩))) HT_.out HW_.out (by kernel_rfl) (by kernel_rfl) ?_ ?_ ?_
    · exact ⟨0, 0, 0, .bool false, .bool false, .bool false, by simp only [putSel, Bool.false_eq_true, if_false], BK311.out, HB.out, fun h_ => absurd h_ (by decide), fun h_ => absurd h_ (by decide), fun h_ => absurd h_ (by decide), fun h_ => absurd h_ (by decide), fun h_ => absurd h_ (by decide), fun h_ => absurd h_ (by decide), fun h_ => absurd h_ (by decide), fun h_ => absurd h_ (by decide), fun h_ => absurd h_ (by decide), fun h_ => absurd h_ (by decide), fun h_ => absurd h_ (by decide), fun h_ => absurd h_ (by decide), fun h_ => absurd h_ (by decide), fun h_ => absurd h_ (by decide), fun h_ => absurd h_ (by decide), fun h_ => absurd h_ (by decide), fun h_ => absurd h_ (by decide), fun h_ => absurd h_ (by decide), fun h_ => absurd h_ (by decide), fun h_ => absurd h_ (by decide), fun h_ => absurd h_ (by decide), fun h_ => absurd h_ (by decide), fun h_ => absurd h_ (by decide), fun h_ => absurd h_ (by decide), fun h_ => absurd h_ (by decide), fun h_ => absurd h_ (by decide), fun h_ => absurd h_ (by decide)⟩
    · skip
      clear BK311 HB
      refine steps_cons ?_ ?_
      · rintro b a w' ⟨gb318, gb319, gb320, m6_, m7_, m8_, ha, Q_BK311, Q_HB, Q_NB319_318, Q_NB318_319, Q_NB320_318, Q_NB318_320, Q_NB320_319, Q_NB319_320, Q_BK318, Q_GW318, Q_GE318, Q_NB311_318, Q_NB318_311, Q_BK319, Q_GW319, Q_GE319, Q_NB311_319, Q_NB319_311, Q_BK320, Q_GW320, Q_GE320, Q_NB311_320, Q_NB320_311, Q_BK318_e9, Q_BK319_e10, Q_BK320_e11, Q_X6_, Q_X7_, Q_X8_⟩ hb_ hon hoff
        refine ⟨_, rfl, fun K hK => ?_⟩
        have e2 : a.tmps[2]? = some (.pointer (some ⟨gb311, 0, none⟩)) := by rw [ha]; exact (putSel_off rfl).trans rfl
        replace ha := Aside0.mk ha
        have BK311 := Aside0.mk Q_BK311
        have HB := Aside0.mk Q_HB
        have hc0_ : w'.cell? ⟨gb311, 0, none⟩ = some (.int .i64 a0_0) := (blk_cell BK311.out 0).trans rfl
        have hc1_ : w'.cell? ⟨gb311, 1, none⟩ = some (.int .i64 a0_1) := (blk_cell BK311.out 1).trans rfl
        refine value_ (w1 := w') (v := .agg #[.int .i64 a0_0, .int .i64 a0_1]) (by rfl) rfl ?_ ?_
        · go_simp
          (try simp only [i64_w])
          try rfl
        refine hK.out _ _ ⟨gb318, gb319, gb320, m6_, m7_, m8_, (by rw [ha.out]; exact putSel_upk 0 hb_ rfl rfl rfl), Q_BK311, Q_HB, Q_NB319_318, Q_NB318_319, Q_NB320_318, Q_NB318_320, Q_NB320_319, Q_NB319_320, Q_BK318, Q_GW318, Q_GE318, Q_NB311_318, Q_NB318_311, Q_BK319, Q_GW319, Q_GE319, Q_NB311_319, Q_NB319_311, Q_BK320, Q_GW320, Q_GE320, Q_NB311_320, Q_NB320_311, fun h0_ => absurd ((hoff 9 (by kernel_rfl)).symm.trans h0_) (by decide), fun h0_ => absurd ((hoff 10 (by kernel_rfl)).symm.trans h0_) (by decide), fun h0_ => absurd ((hoff 11 (by kernel_rfl)).symm.trans h0_) (by decide), Q_X6_, Q_X7_, Q_X8_⟩
      refine steps_cons ?_ ?_
      · rintro b a w' ⟨gb318, gb319, gb320, m6_, m7_, m8_, ha, Q_BK311, Q_HB, Q_NB319_318, Q_NB318_319, Q_NB320_318, Q_NB318_320, Q_NB320_319, Q_NB319_320, Q_BK318, Q_GW318, Q_GE318, Q_NB311_318, Q_NB318_311, Q_BK319, Q_GW319, Q_GE319, Q_NB311_319, Q_NB319_311, Q_BK320, Q_GW320, Q_GE320, Q_NB311_320, Q_NB320_311, Q_BK318_e9, Q_BK319_e10, Q_BK320_e11, Q_X6_, Q_X7_, Q_X8_⟩ hb_ hon hoff
        refine ⟨_, rfl, fun K hK => ?_⟩
        have e8 : a.tmps[8]? = some (.agg #[.int .i64 a0_0, .int .i64 a0_1]) := by rw [ha]; exact putSel_on (e := (0, 8, .agg #[.int .i64 a0_0, .int .i64 a0_1])) 0 rfl rfl (hon 0 (by kernel_rfl)) rfl
        replace ha := Aside0.mk ha
        have BK311 := Aside0.mk Q_BK311
        have HB := Aside0.mk Q_HB
        refine goes_ Tryz.func35 (by kernel_rfl) rfl #[.agg #[.int .i64 a0_0, .int .i64 a0_1]] (by rfl) rfl rfl (by first | (simp only [List.map_toArray, List.map_cons, List.map_nil, Act.eval, Array.getD_eq_getD_getElem?, Option.getD_some, e8]; done) | (simp only [List.map_toArray, List.map_cons, List.map_nil, Act.eval, Array.getD_eq_getD_getElem?, Option.getD_some, e8]; rfl)) ?_
        with_reducible refine (xnum_Floor.calls a0_0 a0_1 t312 t313 _ ?side1 A3.out).mono ?_
        (case side1 => first | exact HLD | exact Laid.below HLD (by repeat (first | (with_reducible first | exact HB.out | apply below_alloc | apply pw_below_drewN | apply below_drew1 | refine below_set ?_ GE311.out) | exact HB.out)))
        rintro e w11 ⟨rfl, hb⟩
        refine ⟨_, rfl, ?_⟩
        have n0_ := Aside0.mk (blk_below (g := gb311) (o := .cells #[.int .i64 a0_0, .int .i64 a0_1] 24 (0, 0)) (by (with_reducible repeat (first | refine blk_drewN ?_ _ | refine blk_drew ?_ | refine blk_alloc ?_ _)); exact BK311.out) hb)
        have n1_ := Aside0.mk (below_step (by repeat (first | (with_reducible first | exact HB.out | apply below_alloc | apply pw_below_drewN | apply below_drew1 | refine below_set ?_ GE311.out) | exact HB.out)) hb)
        have z_BK318 := fun (h0_ : b 6 = true) (h1_ : b 9 = false) => (show w11.heap[gb318]? = some (.cells #[.int .i64 0, .int .i64 0] 24 (0, 0)) from by first | exact (blk_below (g := gb318) (o := .cells #[.int .i64 0, .int .i64 0] 24 (0, 0)) (by (with_reducible repeat (first | refine blk_drewN ?_ _ | refine blk_drew ?_ | refine blk_alloc ?_ _)); exact (Q_BK318 h0_ h1_)) hb))
        have z_BK319 := fun (h0_ : b 7 = true) (h1_ : b 10 = false) => (show w11.heap[gb319]? = some (.cells #[.int .i64 0, .int .i64 0] 24 (0, 0)) from by first | exact (blk_below (g := gb319) (o := .cells #[.int .i64 0, .int .i64 0] 24 (0, 0)) (by (with_reducible repeat (first | refine blk_drewN ?_ _ | refine blk_drew ?_ | refine blk_alloc ?_ _)); exact (Q_BK319 h0_ h1_)) hb))
        have z_BK320 := fun (h0_ : b 8 = true) (h1_ : b 11 = false) => (show w11.heap[gb320]? = some (.cells #[.int .i64 0, .int .i64 0] 24 (0, 0)) from by first | exact (blk_below (g := gb320) (o := .cells #[.int .i64 0, .int .i64 0] 24 (0, 0)) (by (with_reducible repeat (first | refine blk_drewN ?_ _ | refine blk_drew ?_ | refine blk_alloc ?_ _)); exact (Q_BK320 h0_ h1_)) hb))
        clear BK311
        clear HB
        have BK311 := n0_
        have HB := n1_
        clear n0_ n1_
        (try clear hb)
        (try clear hb2)
        (try clear hk)
        (try clear hi)
        refine hK.out _ _ ⟨gb318, gb319, gb320, m6_, m7_, m8_, (by rw [ha.out]; exact putSel_upk 1 hb_ rfl rfl rfl), (by (with_reducible repeat (first | refine blk_drewN ?_ _ | refine blk_drew ?_ | refine blk_alloc ?_ _)); exact BK311.out), (by repeat (first | (with_reducible first | exact HB.out | apply below_alloc | apply pw_below_drewN | apply below_drew1 | refine below_set ?_ GE311.out) | exact HB.out)), Q_NB319_318, Q_NB318_319, Q_NB320_318, Q_NB318_320, Q_NB320_319, Q_NB319_320, z_BK318, Q_GW318, Q_GE318, Q_NB311_318, Q_NB318_311, z_BK319, Q_GW319, Q_GE319, Q_NB311_319, Q_NB319_311, z_BK320, Q_GW320, Q_GE320, Q_NB311_320, Q_NB320_311, fun h0_ => absurd ((hoff 9 (by kernel_rfl)).symm.trans h0_) (by decide), fun h0_ => absurd ((hoff 10 (by kernel_rfl)).symm.trans h0_) (by decide), fun h0_ => absurd ((hoff 11 (by kernel_rfl)).symm.trans h0_) (by decide), Q_X6_, Q_X7_, Q_X8_⟩
      refine steps_cons ?_ ?_
      · rintro b a w' ⟨gb318, gb319, gb320, m6_, m7_, m8_, ha, Q_BK311, Q_HB, Q_NB319_318, Q_NB318_319, Q_NB320_318, Q_NB318_320, Q_NB320_319, Q_NB319_320, Q_BK318, Q_GW318, Q_GE318, Q_NB311_318, Q_NB318_311, Q_BK319, Q_GW319, Q_GE319, Q_NB311_319, Q_NB319_311, Q_BK320, Q_GW320, Q_GE320, Q_NB311_320, Q_NB320_311, Q_BK318_e9, Q_BK319_e10, Q_BK320_e11, Q_X6_, Q_X7_, Q_X8_⟩ hb_ hon hoff
        refine ⟨_, rfl, fun K hK => ?_⟩
        have e2 : a.tmps[2]? = some (.pointer (some ⟨gb311, 0, none⟩)) := by rw [ha]; exact (putSel_off rfl).trans rfl
        replace ha := Aside0.mk ha
        have BK311 := Aside0.mk Q_BK311
        have HB := Aside0.mk Q_HB
        have hc0_ : w'.cell? ⟨gb311, 0, none⟩ = some (.int .i64 a0_0) := (blk_cell BK311.out 0).trans rfl
        have hc1_ : w'.cell? ⟨gb311, 1, none⟩ = some (.int .i64 a0_1) := (blk_cell BK311.out 1).trans rfl
        refine value_ (w1 := w') (v := .agg #[.int .i64 a0_0, .int .i64 a0_1]) (by rfl) rfl ?_ ?_
        · go_simp
          (try simp only [i64_w])
          try rfl
        refine hK.out _ _ ⟨gb318, gb319, gb320, m6_, m7_, m8_, (by rw [ha.out]; exact putSel_upk 2 hb_ rfl rfl rfl), Q_BK311, Q_HB, Q_NB319_318, Q_NB318_319, Q_NB320_318, Q_NB318_320, Q_NB320_319, Q_NB319_320, Q_BK318, Q_GW318, Q_GE318, Q_NB311_318, Q_NB318_311, Q_BK319, Q_GW319, Q_GE319, Q_NB311_319, Q_NB319_311, Q_BK320, Q_GW320, Q_GE320, Q_NB311_320, Q_NB320_311, fun h0_ => absurd ((hoff 9 (by kernel_rfl)).symm.trans h0_) (by decide), fun h0_ => absurd ((hoff 10 (by kernel_rfl)).symm.trans h0_) (by decide), fun h0_ => absurd ((hoff 11 (by kernel_rfl)).symm.trans h0_) (by decide), Q_X6_, Q_X7_, Q_X8_⟩
      refine steps_cons ?_ ?_
      · rintro b a w' ⟨gb318, gb319, gb320, m6_, m7_, m8_, ha, Q_BK311, Q_HB, Q_NB319_318, Q_NB318_319, Q_NB320_318, Q_NB318_320, Q_NB320_319, Q_NB319_320, Q_BK318, Q_GW318, Q_GE318, Q_NB311_318, Q_NB318_311, Q_BK319, Q_GW319, Q_GE319, Q_NB311_319, Q_NB319_311, Q_BK320, Q_GW320, Q_GE320, Q_NB311_320, Q_NB320_311, Q_BK318_e9, Q_BK319_e10, Q_BK320_e11, Q_X6_, Q_X7_, Q_X8_⟩ hb_ hon hoff
        refine ⟨_, rfl, fun K hK => ?_⟩
        have e10 : a.tmps[10]? = some (.agg #[.int .i64 a0_0, .int .i64 a0_1]) := by rw [ha]; exact putSel_on (e := (2, 10, .agg #[.int .i64 a0_0, .int .i64 a0_1])) 2 rfl rfl (hon 2 (by kernel_rfl)) rfl
        replace ha := Aside0.mk ha
        have BK311 := Aside0.mk Q_BK311
        have HB := Aside0.mk Q_HB
        refine goes_ Tryz.func36 (by kernel_rfl) rfl #[.agg #[.int .i64 a0_0, .int .i64 a0_1]] (by rfl) rfl rfl (by first | (simp only [List.map_toArray, List.map_cons, List.map_nil, Act.eval, Array.getD_eq_getD_getElem?, Option.getD_some, e10]; done) | (simp only [List.map_toArray, List.map_cons, List.map_nil, Act.eval, Array.getD_eq_getD_getElem?, Option.getD_some, e10]; rfl)) ?_
        with_reducible refine (xnum_Ceiling.calls k a0_0 a0_1 t314 t315 _ ?side1 A4.out).mono ?_
        (case side1 => first | exact HLD | exact Laid.below HLD (by repeat (first | (with_reducible first | exact HB.out | apply below_alloc | apply pw_below_drewN | apply below_drew1 | refine below_set ?_ GE311.out) | exact HB.out)))
        rintro e w13 ⟨rfl, hb⟩
        refine ⟨_, rfl, ?_⟩
        have n0_ := Aside0.mk (blk_below (g := gb311) (o := .cells #[.int .i64 a0_0, .int .i64 a0_1] 24 (0, 0)) (by (with_reducible repeat (first | refine blk_drewN ?_ _ | refine blk_drew ?_ | refine blk_alloc ?_ _)); exact BK311.out) hb)
        have n1_ := Aside0.mk (below_step (by repeat (first | (with_reducible first | exact HB.out | apply below_alloc | apply pw_below_drewN | apply below_drew1 | refine below_set ?_ GE311.out) | exact HB.out)) hb)
        have z_BK318 := fun (h0_ : b 6 = true) (h1_ : b 9 = false) => (show w13.heap[gb318]? = some (.cells #[.int .i64 0, .int .i64 0] 24 (0, 0)) from by first | exact (blk_below (g := gb318) (o := .cells #[.int .i64 0, .int .i64 0] 24 (0, 0)) (by (with_reducible repeat (first | refine blk_drewN ?_ _ | refine blk_drew ?_ | refine blk_alloc ?_ _)); exact (Q_BK318 h0_ h1_)) hb))
        have z_BK319 := fun (h0_ : b 7 = true) (h1_ : b 10 = false) => (show w13.heap[gb319]? = some (.cells #[.int .i64 0, .int .i64 0] 24 (0, 0)) from by first | exact (blk_below (g := gb319) (o := .cells #[.int .i64 0, .int .i64 0] 24 (0, 0)) (by (with_reducible repeat (first | refine blk_drewN ?_ _ | refine blk_drew ?_ | refine blk_alloc ?_ _)); exact (Q_BK319 h0_ h1_)) hb))
        have z_BK320 := fun (h0_ : b 8 = true) (h1_ : b 11 = false) => (show w13.heap[gb320]? = some (.cells #[.int .i64 0, .int .i64 0] 24 (0, 0)) from by first | exact (blk_below (g := gb320) (o := .cells #[.int .i64 0, .int .i64 0] 24 (0, 0)) (by (with_reducible repeat (first | refine blk_drewN ?_ _ | refine blk_drew ?_ | refine blk_alloc ?_ _)); exact (Q_BK320 h0_ h1_)) hb))
        clear BK311
        clear HB
        have BK311 := n0_
        have HB := n1_
        clear n0_ n1_
        (try clear hb)
        (try clear hb2)
        (try clear hk)
        (try clear hi)
        refine hK.out _ _ ⟨gb318, gb319, gb320, m6_, m7_, m8_, (by rw [ha.out]; exact putSel_upk 3 hb_ rfl rfl rfl), (by (with_reducible repeat (first | refine blk_drewN ?_ _ | refine blk_drew ?_ | refine blk_alloc ?_ _)); exact BK311.out), (by repeat (first | (with_reducible first | exact HB.out | apply below_alloc | apply pw_below_drewN | apply below_drew1 | refine below_set ?_ GE311.out) | exact HB.out)), Q_NB319_318, Q_NB318_319, Q_NB320_318, Q_NB318_320, Q_NB320_319, Q_NB319_320, z_BK318, Q_GW318, Q_GE318, Q_NB311_318, Q_NB318_311, z_BK319, Q_GW319, Q_GE319, Q_NB311_319, Q_NB319_311, z_BK320, Q_GW320, Q_GE320, Q_NB311_320, Q_NB320_311, fun h0_ => absurd ((hoff 9 (by kernel_rfl)).symm.trans h0_) (by decide), fun h0_ => absurd ((hoff 10 (by kernel_rfl)).symm.trans h0_) (by decide), fun h0_ => absurd ((hoff 11 (by kernel_rfl)).symm.trans h0_) (by decide), Q_X6_, Q_X7_, Q_X8_⟩
      refine steps_cons ?_ ?_
      · rintro b a w' ⟨gb318, gb319, gb320, m6_, m7_, m8_, ha, Q_BK311, Q_HB, Q_NB319_318, Q_NB318_319, Q_NB320_318, Q_NB318_320, Q_NB320_319, Q_NB319_320, Q_BK318, Q_GW318, Q_GE318, Q_NB311_318, Q_NB318_311, Q_BK319, Q_GW319, Q_GE319, Q_NB311_319, Q_NB319_311, Q_BK320, Q_GW320, Q_GE320, Q_NB311_320, Q_NB320_311, Q_BK318_e9, Q_BK319_e10, Q_BK320_e11, Q_X6_, Q_X7_, Q_X8_⟩ hb_ hon hoff
        refine ⟨_, rfl, fun K hK => ?_⟩
        have e2 : a.tmps[2]? = some (.pointer (some ⟨gb311, 0, none⟩)) := by rw [ha]; exact (putSel_off rfl).trans rfl
        replace ha := Aside0.mk ha
        have BK311 := Aside0.mk Q_BK311
        have HB := Aside0.mk Q_HB
        have hc0_ : w'.cell? ⟨gb311, 0, none⟩ = some (.int .i64 a0_0) := (blk_cell BK311.out 0).trans rfl
        have hc1_ : w'.cell? ⟨gb311, 1, none⟩ = some (.int .i64 a0_1) := (blk_cell BK311.out 1).trans rfl
        refine value_ (w1 := w') (v := .agg #[.int .i64 a0_0, .int .i64 a0_1]) (by rfl) rfl ?_ ?_
        · go_simp
          (try simp only [i64_w])
          try rfl
        refine hK.out _ _ ⟨gb318, gb319, gb320, m6_, m7_, m8_, (by rw [ha.out]; exact putSel_upk 4 hb_ rfl rfl rfl), Q_BK311, Q_HB, Q_NB319_318, Q_NB318_319, Q_NB320_318, Q_NB318_320, Q_NB320_319, Q_NB319_320, Q_BK318, Q_GW318, Q_GE318, Q_NB311_318, Q_NB318_311, Q_BK319, Q_GW319, Q_GE319, Q_NB311_319, Q_NB319_311, Q_BK320, Q_GW320, Q_GE320, Q_NB311_320, Q_NB320_311, fun h0_ => absurd ((hoff 9 (by kernel_rfl)).symm.trans h0_) (by decide), fun h0_ => absurd ((hoff 10 (by kernel_rfl)).symm.trans h0_) (by decide), fun h0_ => absurd ((hoff 11 (by kernel_rfl)).symm.trans h0_) (by decide), Q_X6_, Q_X7_, Q_X8_⟩
      refine steps_cons ?_ ?_
      · rintro b a w' ⟨gb318, gb319, gb320, m6_, m7_, m8_, ha, Q_BK311, Q_HB, Q_NB319_318, Q_NB318_319, Q_NB320_318, Q_NB318_320, Q_NB320_319, Q_NB319_320, Q_BK318, Q_GW318, Q_GE318, Q_NB311_318, Q_NB318_311, Q_BK319, Q_GW319, Q_GE319, Q_NB311_319, Q_NB319_311, Q_BK320, Q_GW320, Q_GE320, Q_NB311_320, Q_NB320_311, Q_BK318_e9, Q_BK319_e10, Q_BK320_e11, Q_X6_, Q_X7_, Q_X8_⟩ hb_ hon hoff
        refine ⟨_, rfl, fun K hK => ?_⟩
        have e12 : a.tmps[12]? = some (.agg #[.int .i64 a0_0, .int .i64 a0_1]) := by rw [ha]; exact putSel_on (e := (4, 12, .agg #[.int .i64 a0_0, .int .i64 a0_1])) 4 rfl rfl (hon 4 (by kernel_rfl)) rfl
        replace ha := Aside0.mk ha
        have BK311 := Aside0.mk Q_BK311
        have HB := Aside0.mk Q_HB
        refine goes_ Tryz.func37 (by kernel_rfl) rfl #[.agg #[.int .i64 a0_0, .int .i64 a0_1]] (by rfl) rfl rfl (by first | (simp only [List.map_toArray, List.map_cons, List.map_nil, Act.eval, Array.getD_eq_getD_getElem?, Option.getD_some, e12]; done) | (simp only [List.map_toArray, List.map_cons, List.map_nil, Act.eval, Array.getD_eq_getD_getElem?, Option.getD_some, e12]; rfl)) ?_
        with_reducible refine (xnum_Round.calls a0_0 a0_1 t316 t317 _ ?side1 A5.out).mono ?_
        (case side1 => first | exact HLD | exact Laid.below HLD (by repeat (first | (with_reducible first | exact HB.out | apply below_alloc | apply pw_below_drewN | apply below_drew1 | refine below_set ?_ GE311.out) | exact HB.out)))
        rintro e w14 ⟨rfl, hb⟩
        refine ⟨_, rfl, ?_⟩
        have n0_ := Aside0.mk (blk_below (g := gb311) (o := .cells #[.int .i64 a0_0, .int .i64 a0_1] 24 (0, 0)) (by (with_reducible repeat (first | refine blk_drewN ?_ _ | refine blk_drew ?_ | refine blk_alloc ?_ _)); exact BK311.out) hb)
        have n1_ := Aside0.mk (below_step (by repeat (first | (with_reducible first | exact HB.out | apply below_alloc | apply pw_below_drewN | apply below_drew1 | refine below_set ?_ GE311.out) | exact HB.out)) hb)
        have z_BK318 := fun (h0_ : b 6 = true) (h1_ : b 9 = false) => (show w14.heap[gb318]? = some (.cells #[.int .i64 0, .int .i64 0] 24 (0, 0)) from by first | exact (blk_below (g := gb318) (o := .cells #[.int .i64 0, .int .i64 0] 24 (0, 0)) (by (with_reducible repeat (first | refine blk_drewN ?_ _ | refine blk_drew ?_ | refine blk_alloc ?_ _)); exact (Q_BK318 h0_ h1_)) hb))
        have z_BK319 := fun (h0_ : b 7 = true) (h1_ : b 10 = false) => (show w14.heap[gb319]? = some (.cells #[.int .i64 0, .int .i64 0] 24 (0, 0)) from by first | exact (blk_below (g := gb319) (o := .cells #[.int .i64 0, .int .i64 0] 24 (0, 0)) (by (with_reducible repeat (first | refine blk_drewN ?_ _ | refine blk_drew ?_ | refine blk_alloc ?_ _)); exact (Q_BK319 h0_ h1_)) hb))
        have z_BK320 := fun (h0_ : b 8 = true) (h1_ : b 11 = false) => (show w14.heap[gb320]? = some (.cells #[.int .i64 0, .int .i64 0] 24 (0, 0)) from by first | exact (blk_below (g := gb320) (o := .cells #[.int .i64 0, .int .i64 0] 24 (0, 0)) (by (with_reducible repeat (first | refine blk_drewN ?_ _ | refine blk_drew ?_ | refine blk_alloc ?_ _)); exact (Q_BK320 h0_ h1_)) hb))
        clear BK311
        clear HB
        have BK311 := n0_
        have HB := n1_
        clear n0_ n1_
        (try clear hb)
        (try clear hb2)
        (try clear hk)
        (try clear hi)
        refine hK.out _ _ ⟨gb318, gb319, gb320, m6_, m7_, m8_, (by rw [ha.out]; exact putSel_upk 5 hb_ rfl rfl rfl), (by (with_reducible repeat (first | refine blk_drewN ?_ _ | refine blk_drew ?_ | refine blk_alloc ?_ _)); exact BK311.out), (by repeat (first | (with_reducible first | exact HB.out | apply below_alloc | apply pw_below_drewN | apply below_drew1 | refine below_set ?_ GE311.out) | exact HB.out)), Q_NB319_318, Q_NB318_319, Q_NB320_318, Q_NB318_320, Q_NB320_319, Q_NB319_320, z_BK318, Q_GW318, Q_GE318, Q_NB311_318, Q_NB318_311, z_BK319, Q_GW319, Q_GE319, Q_NB311_319, Q_NB319_311, z_BK320, Q_GW320, Q_GE320, Q_NB311_320, Q_NB320_311, fun h0_ => absurd ((hoff 9 (by kernel_rfl)).symm.trans h0_) (by decide), fun h0_ => absurd ((hoff 10 (by kernel_rfl)).symm.trans h0_) (by decide), fun h0_ => absurd ((hoff 11 (by kernel_rfl)).symm.trans h0_) (by decide), Q_X6_, Q_X7_, Q_X8_⟩
      refine steps_cons ?_ ?_
      · rintro b a w' ⟨gb318, gb319, gb320, m6_, m7_, m8_, ha, Q_BK311, Q_HB, Q_NB319_318, Q_NB318_319, Q_NB320_318, Q_NB318_320, Q_NB320_319, Q_NB319_320, Q_BK318, Q_GW318, Q_GE318, Q_NB311_318, Q_NB318_311, Q_BK319, Q_GW319, Q_GE319, Q_NB311_319, Q_NB319_311, Q_BK320, Q_GW320, Q_GE320, Q_NB311_320, Q_NB320_311, Q_BK318_e9, Q_BK319_e10, Q_BK320_e11, Q_X6_, Q_X7_, Q_X8_⟩ hb_ hon hoff
        refine ⟨_, rfl, fun K hK => ?_⟩
        replace ha := Aside0.mk ha
        have BK311 := Aside0.mk Q_BK311
        have HB := Aside0.mk Q_HB
        refine box_step ?hg (N := 5) ?hd (cs := #[.int .i64 0, .int .i64 0]) (t := 24) ?hr ?_; (case hd => rfl); (case hg => rfl); (case hr => first | (go_simp; done) | (go_simp; rfl))
        intro gb318 hg w11 hbox hb
        have n0_ := Aside0.mk (blk_below (g := gb311) (o := .cells #[.int .i64 a0_0, .int .i64 a0_1] 24 (0, 0)) (by (with_reducible repeat (first | refine blk_drewN ?_ _ | refine blk_drew ?_ | refine blk_alloc ?_ _)); exact BK311.out) hb)
        have n1_ := Aside0.mk (below_step (by repeat (first | (with_reducible first | exact HB.out | apply below_alloc | apply pw_below_drewN | apply below_drew1 | refine below_set ?_ GE311.out) | exact HB.out)) hb)
        have n2_ := Aside0.mk (hbox)
        have n3_ := Aside0.mk ((by rw [hg]; exact (below_size (by repeat (first | (with_reducible first | exact HB.out | apply below_alloc | apply pw_below_drewN | apply below_drew1 | refine below_set ?_ GE311.out) | exact HB.out))) : w.heap.size ≤ gb318))
        have n4_ := Aside0.mk ((by rw [hg]; exact (below_size (by repeat (first | (with_reducible first | exact HB.out | apply below_alloc | apply pw_below_drewN | apply below_drew1 | refine below_set ?_ GE311.out) | exact HB.out))) : w.heap.size ≤ gb318))
        have n5_ := Aside0.mk ((by rw [hg]; exact Nat.ne_of_lt (blk_lt (g := gb311) (o := .cells #[.int .i64 a0_0, .int .i64 a0_1] 24 (0, 0)) (by (with_reducible repeat (first | refine blk_drewN ?_ _ | refine blk_drew ?_ | refine blk_alloc ?_ _)); exact BK311.out)) : gb311 ≠ gb318))
        have n6_ := Aside0.mk ((by rw [hg]; exact Nat.ne_of_gt (blk_lt (g := gb311) (o := .cells #[.int .i64 a0_0, .int .i64 a0_1] 24 (0, 0)) (by (with_reducible repeat (first | refine blk_drewN ?_ _ | refine blk_drew ?_ | refine blk_alloc ?_ _)); exact BK311.out)) : gb318 ≠ gb311))
        have z_NB319_318 := fun (h0_ : up b 6 6 = true) (h1_ : up b 6 7 = true) => (show gb319 ≠ gb318 from ((by rw [hg]; exact Nat.ne_of_lt (blk_lt (g := gb319) (o := .cells #[.int .i64 0, .int .i64 0] 24 (0, 0)) (by (with_reducible repeat (first | refine blk_drewN ?_ _ | refine blk_drew ?_ | refine blk_alloc ?_ _)); exact (Q_BK319 (show b 7 = true from h1_) (hoff 10 (by kernel_rfl))))) : gb319 ≠ gb318)))
        have z_NB318_319 := fun (h0_ : up b 6 6 = true) (h1_ : up b 6 7 = true) => (show gb318 ≠ gb319 from ((by rw [hg]; exact Nat.ne_of_gt (blk_lt (g := gb319) (o := .cells #[.int .i64 0, .int .i64 0] 24 (0, 0)) (by (with_reducible repeat (first | refine blk_drewN ?_ _ | refine blk_drew ?_ | refine blk_alloc ?_ _)); exact (Q_BK319 (show b 7 = true from h1_) (hoff 10 (by kernel_rfl))))) : gb318 ≠ gb319)))
        have z_NB320_318 := fun (h0_ : up b 6 6 = true) (h1_ : up b 6 8 = true) => (show gb320 ≠ gb318 from ((by rw [hg]; exact Nat.ne_of_lt (blk_lt (g := gb320) (o := .cells #[.int .i64 0, .int .i64 0] 24 (0, 0)) (by (with_reducible repeat (first | refine blk_drewN ?_ _ | refine blk_drew ?_ | refine blk_alloc ?_ _)); exact (Q_BK320 (show b 8 = true from h1_) (hoff 11 (by kernel_rfl))))) : gb320 ≠ gb318)))
        have z_NB318_320 := fun (h0_ : up b 6 6 = true) (h1_ : up b 6 8 = true) => (show gb318 ≠ gb320 from ((by rw [hg]; exact Nat.ne_of_gt (blk_lt (g := gb320) (o := .cells #[.int .i64 0, .int .i64 0] 24 (0, 0)) (by (with_reducible repeat (first | refine blk_drewN ?_ _ | refine blk_drew ?_ | refine blk_alloc ?_ _)); exact (Q_BK320 (show b 8 = true from h1_) (hoff 11 (by kernel_rfl))))) : gb318 ≠ gb320)))
        have z_BK319 := fun (h0_ : b 7 = true) (h1_ : b 10 = false) => (show w11.heap[gb319]? = some (.cells #[.int .i64 0, .int .i64 0] 24 (0, 0)) from by first | exact (blk_below (g := gb319) (o := .cells #[.int .i64 0, .int .i64 0] 24 (0, 0)) (by (with_reducible repeat (first | refine blk_drewN ?_ _ | refine blk_drew ?_ | refine blk_alloc ?_ _)); exact (Q_BK319 h0_ h1_)) hb))
        have z_BK320 := fun (h0_ : b 8 = true) (h1_ : b 11 = false) => (show w11.heap[gb320]? = some (.cells #[.int .i64 0, .int .i64 0] 24 (0, 0)) from by first | exact (blk_below (g := gb320) (o := .cells #[.int .i64 0, .int .i64 0] 24 (0, 0)) (by (with_reducible repeat (first | refine blk_drewN ?_ _ | refine blk_drew ?_ | refine blk_alloc ?_ _)); exact (Q_BK320 h0_ h1_)) hb))
        clear BK311
        clear HB
        have BK311 := n0_
        have HB := n1_
        have BK318 := n2_
        have GW318 := n3_
        have GE318 := n4_
        have NB311_318 := n5_
        have NB318_311 := n6_
        clear n0_ n1_ n2_ n3_ n4_ n5_ n6_
        clear hb hbox hg
        refine hK.out _ _ ⟨gb318, gb319, gb320, (.pointer (some ⟨gb318, 0, none⟩)), m7_, m8_, (by rw [ha.out]; exact putSel_upk 6 hb_ rfl rfl rfl), (by (with_reducible repeat (first | refine blk_drewN ?_ _ | refine blk_drew ?_ | refine blk_alloc ?_ _)); exact BK311.out), (by repeat (first | (with_reducible first | exact HB.out | apply below_alloc | apply pw_below_drewN | apply below_drew1 | refine below_set ?_ GE311.out | refine below_set ?_ GE318.out) | exact HB.out)), @z_NB319_318, @z_NB318_319, @z_NB320_318, @z_NB318_320, Q_NB320_319, Q_NB319_320, fun _ _ => (by (with_reducible repeat (first | refine blk_drewN ?_ _ | refine blk_drew ?_ | refine blk_alloc ?_ _)); exact BK318.out), fun _ => GW318.out, fun _ => GE318.out, fun _ => NB311_318.out, fun _ => NB318_311.out, z_BK319, Q_GW319, Q_GE319, Q_NB311_319, Q_NB319_311, z_BK320, Q_GW320, Q_GE320, Q_NB311_320, Q_NB320_311, fun h0_ => absurd ((hoff 9 (by kernel_rfl)).symm.trans h0_) (by decide), fun h0_ => absurd ((hoff 10 (by kernel_rfl)).symm.trans h0_) (by decide), fun h0_ => absurd ((hoff 11 (by kernel_rfl)).symm.trans h0_) (by decide), fun _ => rfl, Q_X7_, Q_X8_⟩
      refine steps_cons ?_ ?_
      · rintro b a w' ⟨gb318, gb319, gb320, m6_, m7_, m8_, ha, Q_BK311, Q_HB, Q_NB319_318, Q_NB318_319, Q_NB320_318, Q_NB318_320, Q_NB320_319, Q_NB319_320, Q_BK318, Q_GW318, Q_GE318, Q_NB311_318, Q_NB318_311, Q_BK319, Q_GW319, Q_GE319, Q_NB311_319, Q_NB319_311, Q_BK320, Q_GW320, Q_GE320, Q_NB311_320, Q_NB320_311, Q_BK318_e9, Q_BK319_e10, Q_BK320_e11, Q_X6_, Q_X7_, Q_X8_⟩ hb_ hon hoff
        refine ⟨_, rfl, fun K hK => ?_⟩
        replace ha := Aside0.mk ha
        have BK311 := Aside0.mk Q_BK311
        have HB := Aside0.mk Q_HB
        refine box_step ?hg (N := 6) ?hd (cs := #[.int .i64 0, .int .i64 0]) (t := 24) ?hr ?_; (case hd => rfl); (case hg => rfl); (case hr => first | (go_simp; done) | (go_simp; rfl))
        intro gb319 hg w11 hbox hb
        have n0_ := Aside0.mk (blk_below (g := gb311) (o := .cells #[.int .i64 a0_0, .int .i64 a0_1] 24 (0, 0)) (by (with_reducible repeat (first | refine blk_drewN ?_ _ | refine blk_drew ?_ | refine blk_alloc ?_ _)); exact BK311.out) hb)
        have n1_ := Aside0.mk (below_step (by repeat (first | (with_reducible first | exact HB.out | apply below_alloc | apply pw_below_drewN | apply below_drew1 | refine below_set ?_ GE311.out) | exact HB.out)) hb)
        have n2_ := Aside0.mk (hbox)
        have n3_ := Aside0.mk ((by rw [hg]; exact (below_size (by repeat (first | (with_reducible first | exact HB.out | apply below_alloc | apply pw_below_drewN | apply below_drew1 | refine below_set ?_ GE311.out) | exact HB.out))) : w.heap.size ≤ gb319))
        have n4_ := Aside0.mk ((by rw [hg]; exact (below_size (by repeat (first | (with_reducible first | exact HB.out | apply below_alloc | apply pw_below_drewN | apply below_drew1 | refine below_set ?_ GE311.out) | exact HB.out))) : w.heap.size ≤ gb319))
        have n5_ := Aside0.mk ((by rw [hg]; exact Nat.ne_of_lt (blk_lt (g := gb311) (o := .cells #[.int .i64 a0_0, .int .i64 a0_1] 24 (0, 0)) (by (with_reducible repeat (first | refine blk_drewN ?_ _ | refine blk_drew ?_ | refine blk_alloc ?_ _)); exact BK311.out)) : gb311 ≠ gb319))
        have n6_ := Aside0.mk ((by rw [hg]; exact Nat.ne_of_gt (blk_lt (g := gb311) (o := .cells #[.int .i64 a0_0, .int .i64 a0_1] 24 (0, 0)) (by (with_reducible repeat (first | refine blk_drewN ?_ _ | refine blk_drew ?_ | refine blk_alloc ?_ _)); exact BK311.out)) : gb319 ≠ gb311))
        have z_NB319_318 := fun (h0_ : up b 7 6 = true) (h1_ : up b 7 7 = true) => (show gb319 ≠ gb318 from ((by rw [hg]; exact Nat.ne_of_gt (blk_lt (g := gb318) (o := .cells #[.int .i64 0, .int .i64 0] 24 (0, 0)) (by (with_reducible repeat (first | refine blk_drewN ?_ _ | refine blk_drew ?_ | refine blk_alloc ?_ _)); exact (Q_BK318 (show b 6 = true from h0_) (hoff 9 (by kernel_rfl))))) : gb319 ≠ gb318)))
        have z_NB318_319 := fun (h0_ : up b 7 6 = true) (h1_ : up b 7 7 = true) => (show gb318 ≠ gb319 from ((by rw [hg]; exact Nat.ne_of_lt (blk_lt (g := gb318) (o := .cells #[.int .i64 0, .int .i64 0] 24 (0, 0)) (by (with_reducible repeat (first | refine blk_drewN ?_ _ | refine blk_drew ?_ | refine blk_alloc ?_ _)); exact (Q_BK318 (show b 6 = true from h0_) (hoff 9 (by kernel_rfl))))) : gb318 ≠ gb319)))
        have z_NB320_319 := fun (h0_ : up b 7 7 = true) (h1_ : up b 7 8 = true) => (show gb320 ≠ gb319 from ((by rw [hg]; exact Nat.ne_of_lt (blk_lt (g := gb320) (o := .cells #[.int .i64 0, .int .i64 0] 24 (0, 0)) (by (with_reducible repeat (first | refine blk_drewN ?_ _ | refine blk_drew ?_ | refine blk_alloc ?_ _)); exact (Q_BK320 (show b 8 = true from h1_) (hoff 11 (by kernel_rfl))))) : gb320 ≠ gb319)))
        have z_NB319_320 := fun (h0_ : up b 7 7 = true) (h1_ : up b 7 8 = true) => (show gb319 ≠ gb320 from ((by rw [hg]; exact Nat.ne_of_gt (blk_lt (g := gb320) (o := .cells #[.int .i64 0, .int .i64 0] 24 (0, 0)) (by (with_reducible repeat (first | refine blk_drewN ?_ _ | refine blk_drew ?_ | refine blk_alloc ?_ _)); exact (Q_BK320 (show b 8 = true from h1_) (hoff 11 (by kernel_rfl))))) : gb319 ≠ gb320)))
        have z_BK318 := fun (h0_ : b 6 = true) (h1_ : b 9 = false) => (show w11.heap[gb318]? = some (.cells #[.int .i64 0, .int .i64 0] 24 (0, 0)) from by first | exact (blk_below (g := gb318) (o := .cells #[.int .i64 0, .int .i64 0] 24 (0, 0)) (by (with_reducible repeat (first | refine blk_drewN ?_ _ | refine blk_drew ?_ | refine blk_alloc ?_ _)); exact (Q_BK318 h0_ h1_)) hb))
        have z_BK320 := fun (h0_ : b 8 = true) (h1_ : b 11 = false) => (show w11.heap[gb320]? = some (.cells #[.int .i64 0, .int .i64 0] 24 (0, 0)) from by first | exact (blk_below (g := gb320) (o := .cells #[.int .i64 0, .int .i64 0] 24 (0, 0)) (by (with_reducible repeat (first | refine blk_drewN ?_ _ | refine blk_drew ?_ | refine blk_alloc ?_ _)); exact (Q_BK320 h0_ h1_)) hb))
        clear BK311
        clear HB
        have BK311 := n0_
        have HB := n1_
        have BK319 := n2_
        have GW319 := n3_
        have GE319 := n4_
        have NB311_319 := n5_
        have NB319_311 := n6_
        clear n0_ n1_ n2_ n3_ n4_ n5_ n6_
        clear hb hbox hg
        refine hK.out _ _ ⟨gb318, gb319, gb320, m6_, (.pointer (some ⟨gb319, 0, none⟩)), m8_, (by rw [ha.out]; exact putSel_upk 7 hb_ rfl rfl rfl), (by (with_reducible repeat (first | refine blk_drewN ?_ _ | refine blk_drew ?_ | refine blk_alloc ?_ _)); exact BK311.out), (by repeat (first | (with_reducible first | exact HB.out | apply below_alloc | apply pw_below_drewN | apply below_drew1 | refine below_set ?_ GE311.out | refine below_set ?_ GE319.out) | exact HB.out)), @z_NB319_318, @z_NB318_319, Q_NB320_318, Q_NB318_320, @z_NB320_319, @z_NB319_320, z_BK318, Q_GW318, Q_GE318, Q_NB311_318, Q_NB318_311, fun _ _ => (by (with_reducible repeat (first | refine blk_drewN ?_ _ | refine blk_drew ?_ | refine blk_alloc ?_ _)); exact BK319.out), fun _ => GW319.out, fun _ => GE319.out, fun _ => NB311_319.out, fun _ => NB319_311.out, z_BK320, Q_GW320, Q_GE320, Q_NB311_320, Q_NB320_311, fun h0_ => absurd ((hoff 9 (by kernel_rfl)).symm.trans h0_) (by decide), fun h0_ => absurd ((hoff 10 (by kernel_rfl)).symm.trans h0_) (by decide), fun h0_ => absurd ((hoff 11 (by kernel_rfl)).symm.trans h0_) (by decide), Q_X6_, fun _ => rfl, Q_X8_⟩
      refine steps_cons ?_ ?_
      · rintro b a w' ⟨gb318, gb319, gb320, m6_, m7_, m8_, ha, Q_BK311, Q_HB, Q_NB319_318, Q_NB318_319, Q_NB320_318, Q_NB318_320, Q_NB320_319, Q_NB319_320, Q_BK318, Q_GW318, Q_GE318, Q_NB311_318, Q_NB318_311, Q_BK319, Q_GW319, Q_GE319, Q_NB311_319, Q_NB319_311, Q_BK320, Q_GW320, Q_GE320, Q_NB311_320, Q_NB320_311, Q_BK318_e9, Q_BK319_e10, Q_BK320_e11, Q_X6_, Q_X7_, Q_X8_⟩ hb_ hon hoff
        refine ⟨_, rfl, fun K hK => ?_⟩
        replace ha := Aside0.mk ha
        have BK311 := Aside0.mk Q_BK311
        have HB := Aside0.mk Q_HB
        refine box_step ?hg (N := 7) ?hd (cs := #[.int .i64 0, .int .i64 0]) (t := 24) ?hr ?_; (case hd => rfl); (case hg => rfl); (case hr => first | (go_simp; done) | (go_simp; rfl))
        intro gb320 hg w11 hbox hb
        have n0_ := Aside0.mk (blk_below (g := gb311) (o := .cells #[.int .i64 a0_0, .int .i64 a0_1] 24 (0, 0)) (by (with_reducible repeat (first | refine blk_drewN ?_ _ | refine blk_drew ?_ | refine blk_alloc ?_ _)); exact BK311.out) hb)
        have n1_ := Aside0.mk (below_step (by repeat (first | (with_reducible first | exact HB.out | apply below_alloc | apply pw_below_drewN | apply below_drew1 | refine below_set ?_ GE311.out) | exact HB.out)) hb)
        have n2_ := Aside0.mk (hbox)
        have n3_ := Aside0.mk ((by rw [hg]; exact (below_size (by repeat (first | (with_reducible first | exact HB.out | apply below_alloc | apply pw_below_drewN | apply below_drew1 | refine below_set ?_ GE311.out) | exact HB.out))) : w.heap.size ≤ gb320))
        have n4_ := Aside0.mk ((by rw [hg]; exact (below_size (by repeat (first | (with_reducible first | exact HB.out | apply below_alloc | apply pw_below_drewN | apply below_drew1 | refine below_set ?_ GE311.out) | exact HB.out))) : w.heap.size ≤ gb320))
        have n5_ := Aside0.mk ((by rw [hg]; exact Nat.ne_of_lt (blk_lt (g := gb311) (o := .cells #[.int .i64 a0_0, .int .i64 a0_1] 24 (0, 0)) (by (with_reducible repeat (first | refine blk_drewN ?_ _ | refine blk_drew ?_ | refine blk_alloc ?_ _)); exact BK311.out)) : gb311 ≠ gb320))
        have n6_ := Aside0.mk ((by rw [hg]; exact Nat.ne_of_gt (blk_lt (g := gb311) (o := .cells #[.int .i64 a0_0, .int .i64 a0_1] 24 (0, 0)) (by (with_reducible repeat (first | refine blk_drewN ?_ _ | refine blk_drew ?_ | refine blk_alloc ?_ _)); exact BK311.out)) : gb320 ≠ gb311))
        have z_NB320_318 := fun (h0_ : up b 8 6 = true) (h1_ : up b 8 8 = true) => (show gb320 ≠ gb318 from ((by rw [hg]; exact Nat.ne_of_gt (blk_lt (g := gb318) (o := .cells #[.int .i64 0, .int .i64 0] 24 (0, 0)) (by (with_reducible repeat (first | refine blk_drewN ?_ _ | refine blk_drew ?_ | refine blk_alloc ?_ _)); exact (Q_BK318 (show b 6 = true from h0_) (hoff 9 (by kernel_rfl))))) : gb320 ≠ gb318)))
        have z_NB318_320 := fun (h0_ : up b 8 6 = true) (h1_ : up b 8 8 = true) => (show gb318 ≠ gb320 from ((by rw [hg]; exact Nat.ne_of_lt (blk_lt (g := gb318) (o := .cells #[.int .i64 0, .int .i64 0] 24 (0, 0)) (by (with_reducible repeat (first | refine blk_drewN ?_ _ | refine blk_drew ?_ | refine blk_alloc ?_ _)); exact (Q_BK318 (show b 6 = true from h0_) (hoff 9 (by kernel_rfl))))) : gb318 ≠ gb320)))
        have z_NB320_319 := fun (h0_ : up b 8 7 = true) (h1_ : up b 8 8 = true) => (show gb320 ≠ gb319 from ((by rw [hg]; exact Nat.ne_of_gt (blk_lt (g := gb319) (o := .cells #[.int .i64 0, .int .i64 0] 24 (0, 0)) (by (with_reducible repeat (first | refine blk_drewN ?_ _ | refine blk_drew ?_ | refine blk_alloc ?_ _)); exact (Q_BK319 (show b 7 = true from h0_) (hoff 10 (by kernel_rfl))))) : gb320 ≠ gb319)))
        have z_NB319_320 := fun (h0_ : up b 8 7 = true) (h1_ : up b 8 8 = true) => (show gb319 ≠ gb320 from ((by rw [hg]; exact Nat.ne_of_lt (blk_lt (g := gb319) (o := .cells #[.int .i64 0, .int .i64 0] 24 (0, 0)) (by (with_reducible repeat (first | refine blk_drewN ?_ _ | refine blk_drew ?_ | refine blk_alloc ?_ _)); exact (Q_BK319 (show b 7 = true from h0_) (hoff 10 (by kernel_rfl))))) : gb319 ≠ gb320)))
        have z_BK318 := fun (h0_ : b 6 = true) (h1_ : b 9 = false) => (show w11.heap[gb318]? = some (.cells #[.int .i64 0, .int .i64 0] 24 (0, 0)) from by first | exact (blk_below (g := gb318) (o := .cells #[.int .i64 0, .int .i64 0] 24 (0, 0)) (by (with_reducible repeat (first | refine blk_drewN ?_ _ | refine blk_drew ?_ | refine blk_alloc ?_ _)); exact (Q_BK318 h0_ h1_)) hb))
        have z_BK319 := fun (h0_ : b 7 = true) (h1_ : b 10 = false) => (show w11.heap[gb319]? = some (.cells #[.int .i64 0, .int .i64 0] 24 (0, 0)) from by first | exact (blk_below (g := gb319) (o := .cells #[.int .i64 0, .int .i64 0] 24 (0, 0)) (by (with_reducible repeat (first | refine blk_drewN ?_ _ | refine blk_drew ?_ | refine blk_alloc ?_ _)); exact (Q_BK319 h0_ h1_)) hb))
        clear BK311
        clear HB
        have BK311 := n0_
        have HB := n1_
        have BK320 := n2_
        have GW320 := n3_
        have GE320 := n4_
        have NB311_320 := n5_
        have NB320_311 := n6_
        clear n0_ n1_ n2_ n3_ n4_ n5_ n6_
        clear hb hbox hg
        refine hK.out _ _ ⟨gb318, gb319, gb320, m6_, m7_, (.pointer (some ⟨gb320, 0, none⟩)), (by rw [ha.out]; exact putSel_upk 8 hb_ rfl rfl rfl), (by (with_reducible repeat (first | refine blk_drewN ?_ _ | refine blk_drew ?_ | refine blk_alloc ?_ _)); exact BK311.out), (by repeat (first | (with_reducible first | exact HB.out | apply below_alloc | apply pw_below_drewN | apply below_drew1 | refine below_set ?_ GE311.out | refine below_set ?_ GE320.out) | exact HB.out)), Q_NB319_318, Q_NB318_319, @z_NB320_318, @z_NB318_320, @z_NB320_319, @z_NB319_320, z_BK318, Q_GW318, Q_GE318, Q_NB311_318, Q_NB318_311, z_BK319, Q_GW319, Q_GE319, Q_NB311_319, Q_NB319_311, fun _ _ => (by (with_reducible repeat (first | refine blk_drewN ?_ _ | refine blk_drew ?_ | refine blk_alloc ?_ _)); exact BK320.out), fun _ => GW320.out, fun _ => GE320.out, fun _ => NB311_320.out, fun _ => NB320_311.out, fun h0_ => absurd ((hoff 9 (by kernel_rfl)).symm.trans h0_) (by decide), fun h0_ => absurd ((hoff 10 (by kernel_rfl)).symm.trans h0_) (by decide), fun h0_ => absurd ((hoff 11 (by kernel_rfl)).symm.trans h0_) (by decide), Q_X6_, Q_X7_, fun _ => rfl⟩
      refine steps_cons ?_ ?_
      · rintro b a w' ⟨gb318, gb319, gb320, m6_, m7_, m8_, ha, Q_BK311, Q_HB, Q_NB319_318, Q_NB318_319, Q_NB320_318, Q_NB318_320, Q_NB320_319, Q_NB319_320, Q_BK318, Q_GW318, Q_GE318, Q_NB311_318, Q_NB318_311, Q_BK319, Q_GW319, Q_GE319, Q_NB311_319, Q_NB319_311, Q_BK320, Q_GW320, Q_GE320, Q_NB311_320, Q_NB320_311, Q_BK318_e9, Q_BK319_e10, Q_BK320_e11, Q_X6_, Q_X7_, Q_X8_⟩ hb_ hon hoff
        refine ⟨_, rfl, fun K hK => ?_⟩
        have e5 : a.tmps[5]? = some (m6_) := by rw [ha]; exact putSel_on (e := (6, 5, m6_)) 6 rfl rfl (hon 6 (by kernel_rfl)) rfl
        rw [Q_X6_ (hon 6 (by kernel_rfl))] at e5
        have e9 : a.tmps[9]? = some (.agg #[.int .i64 t312, .int .i64 t313]) := by rw [ha]; exact putSel_on (e := (1, 9, .agg #[.int .i64 t312, .int .i64 t313])) 1 rfl rfl (hon 1 (by kernel_rfl)) rfl
        replace ha := Aside0.mk ha
        have BK311 := Aside0.mk Q_BK311
        have HB := Aside0.mk Q_HB
        have NB319_318 := Aside0.mk (Q_NB319_318 (hon 6 (by kernel_rfl)) (hon 7 (by kernel_rfl)))
        have NB318_319 := Aside0.mk (Q_NB318_319 (hon 6 (by kernel_rfl)) (hon 7 (by kernel_rfl)))
        have NB320_318 := Aside0.mk (Q_NB320_318 (hon 6 (by kernel_rfl)) (hon 8 (by kernel_rfl)))
        have NB318_320 := Aside0.mk (Q_NB318_320 (hon 6 (by kernel_rfl)) (hon 8 (by kernel_rfl)))
        have NB320_319 := Aside0.mk (Q_NB320_319 (hon 7 (by kernel_rfl)) (hon 8 (by kernel_rfl)))
        have NB319_320 := Aside0.mk (Q_NB319_320 (hon 7 (by kernel_rfl)) (hon 8 (by kernel_rfl)))
        have BK318 := Aside0.mk (Q_BK318 (hon 6 (by kernel_rfl)) hb_)
        have GW318 := Aside0.mk (Q_GW318 (hon 6 (by kernel_rfl)))
        have GE318 := Aside0.mk (Q_GE318 (hon 6 (by kernel_rfl)))
        have NB311_318 := Aside0.mk (Q_NB311_318 (hon 6 (by kernel_rfl)))
        have NB318_311 := Aside0.mk (Q_NB318_311 (hon 6 (by kernel_rfl)))
        have BK319 := Aside0.mk (Q_BK319 (hon 7 (by kernel_rfl)) (hoff 10 (by kernel_rfl)))
        have GW319 := Aside0.mk (Q_GW319 (hon 7 (by kernel_rfl)))
        have GE319 := Aside0.mk (Q_GE319 (hon 7 (by kernel_rfl)))
        have NB311_319 := Aside0.mk (Q_NB311_319 (hon 7 (by kernel_rfl)))
        have NB319_311 := Aside0.mk (Q_NB319_311 (hon 7 (by kernel_rfl)))
        have BK320 := Aside0.mk (Q_BK320 (hon 8 (by kernel_rfl)) (hoff 11 (by kernel_rfl)))
        have GW320 := Aside0.mk (Q_GW320 (hon 8 (by kernel_rfl)))
        have GE320 := Aside0.mk (Q_GE320 (hon 8 (by kernel_rfl)))
        have NB311_320 := Aside0.mk (Q_NB311_320 (hon 8 (by kernel_rfl)))
        have NB320_311 := Aside0.mk (Q_NB320_311 (hon 8 (by kernel_rfl)))
        have hs18 : w'.cell? ⟨gb318, 0, none⟩ = some (.int .i64 0) := (blk_cell BK318.out 0).trans rfl
        have hfs18 := blk_frozen BK318.out 0
        have hns18_0 := NB311_318.out
        have hns18_2 := NB319_318.out
        have hns18_3 := NB320_318.out
        have hms18_0 := NB318_311.out
        have hms18_2 := NB318_319.out
        have hms18_3 := NB318_320.out
        have hs19 : w'.cell? ⟨gb318, 1, none⟩ = some (.int .i64 0) := (blk_cell BK318.out 1).trans rfl
        have hfs19 := blk_frozen BK318.out 1
        have hns19_0 := NB311_318.out
        have hns19_2 := NB319_318.out
        have hns19_3 := NB320_318.out
        have hms19_0 := NB318_311.out
        have hms19_2 := NB318_319.out
        have hms19_3 := NB318_320.out
        refine skip_ (w1 := ?_) (by rfl) rfl ?_ ?_
        rotate_left
        · go_simp
          rfl
        refine hK.out _ _ ⟨gb318, gb319, gb320, m6_, m7_, m8_, (by rw [ha.out]; exact putSel_none (v := undef) rfl), (by (with_reducible repeat (first | refine blk_drewN ?_ _ | refine blk_drew ?_ | refine blk_alloc ?_ _)); refine blk_far ?_ NB311_318.out _; (with_reducible repeat (first | refine blk_drewN ?_ _ | refine blk_drew ?_ | refine blk_alloc ?_ _)); refine blk_far ?_ NB311_318.out _; (with_reducible repeat (first | refine blk_drewN ?_ _ | refine blk_drew ?_ | refine blk_alloc ?_ _)); exact BK311.out), (by repeat (first | (with_reducible first | exact HB.out | apply below_alloc | apply pw_below_drewN | apply below_drew1 | refine below_set ?_ GE311.out | refine below_set ?_ GE318.out | refine below_set ?_ GE319.out | refine below_set ?_ GE320.out) | exact HB.out)), fun _ _ => NB319_318.out, fun _ _ => NB318_319.out, fun _ _ => NB320_318.out, fun _ _ => NB318_320.out, fun _ _ => NB320_319.out, fun _ _ => NB319_320.out, fun _ h1_ => absurd ((up_self b 9).symm.trans h1_) (by decide), fun _ => GW318.out, fun _ => GE318.out, fun _ => NB311_318.out, fun _ => NB318_311.out, fun _ _ => (by (with_reducible repeat (first | refine blk_drewN ?_ _ | refine blk_drew ?_ | refine blk_alloc ?_ _)); refine blk_far ?_ NB319_318.out _; (with_reducible repeat (first | refine blk_drewN ?_ _ | refine blk_drew ?_ | refine blk_alloc ?_ _)); refine blk_far ?_ NB319_318.out _; (with_reducible repeat (first | refine blk_drewN ?_ _ | refine blk_drew ?_ | refine blk_alloc ?_ _)); exact BK319.out), fun _ => GW319.out, fun _ => GE319.out, fun _ => NB311_319.out, fun _ => NB319_311.out, fun _ _ => (by (with_reducible repeat (first | refine blk_drewN ?_ _ | refine blk_drew ?_ | refine blk_alloc ?_ _)); refine blk_far ?_ NB320_318.out _; (with_reducible repeat (first | refine blk_drewN ?_ _ | refine blk_drew ?_ | refine blk_alloc ?_ _)); refine blk_far ?_ NB320_318.out _; (with_reducible repeat (first | refine blk_drewN ?_ _ | refine blk_drew ?_ | refine blk_alloc ?_ _)); exact BK320.out), fun _ => GW320.out, fun _ => GE320.out, fun _ => NB311_320.out, fun _ => NB320_311.out, fun _ => (by (with_reducible repeat (first | refine blk_drewN ?_ _ | refine blk_drew ?_ | refine blk_alloc ?_ _)); refine blk_put (cs := #[.int .i64 t312, .int .i64 0]) ?_ 1 _ rfl; (with_reducible repeat (first | refine blk_drewN ?_ _ | refine blk_drew ?_ | refine blk_alloc ?_ _)); refine blk_put (cs := #[.int .i64 0, .int .i64 0]) ?_ 0 _ rfl; (with_reducible repeat (first | refine blk_drewN ?_ _ | refine blk_drew ?_ | refine blk_alloc ?_ _)); exact BK318.out), fun h0_ => absurd ((hoff 10 (by kernel_rfl)).symm.trans h0_) (by decide), fun h0_ => absurd ((hoff 11 (by kernel_rfl)).symm.trans h0_) (by decide), Q_X6_, Q_X7_, Q_X8_⟩
      refine steps_cons ?_ ?_
      · rintro b a w' ⟨gb318, gb319, gb320, m6_, m7_, m8_, ha, Q_BK311, Q_HB, Q_NB319_318, Q_NB318_319, Q_NB320_318, Q_NB318_320, Q_NB320_319, Q_NB319_320, Q_BK318, Q_GW318, Q_GE318, Q_NB311_318, Q_NB318_311, Q_BK319, Q_GW319, Q_GE319, Q_NB311_319, Q_NB319_311, Q_BK320, Q_GW320, Q_GE320, Q_NB311_320, Q_NB320_311, Q_BK318_e9, Q_BK319_e10, Q_BK320_e11, Q_X6_, Q_X7_, Q_X8_⟩ hb_ hon hoff
        refine ⟨_, rfl, fun K hK => ?_⟩
        have e6 : a.tmps[6]? = some (m7_) := by rw [ha]; exact putSel_on (e := (7, 6, m7_)) 7 rfl rfl (hon 7 (by kernel_rfl)) rfl
        rw [Q_X7_ (hon 7 (by kernel_rfl))] at e6
        have e11 : a.tmps[11]? = some (.agg #[.int .i64 t314, .int .i64 t315]) := by rw [ha]; exact putSel_on (e := (3, 11, .agg #[.int .i64 t314, .int .i64 t315])) 3 rfl rfl (hon 3 (by kernel_rfl)) rfl
        replace ha := Aside0.mk ha
        have BK311 := Aside0.mk Q_BK311
        have HB := Aside0.mk Q_HB
        have NB319_318 := Aside0.mk (Q_NB319_318 (hon 6 (by kernel_rfl)) (hon 7 (by kernel_rfl)))
        have NB318_319 := Aside0.mk (Q_NB318_319 (hon 6 (by kernel_rfl)) (hon 7 (by kernel_rfl)))
        have NB320_318 := Aside0.mk (Q_NB320_318 (hon 6 (by kernel_rfl)) (hon 8 (by kernel_rfl)))
        have NB318_320 := Aside0.mk (Q_NB318_320 (hon 6 (by kernel_rfl)) (hon 8 (by kernel_rfl)))
        have NB320_319 := Aside0.mk (Q_NB320_319 (hon 7 (by kernel_rfl)) (hon 8 (by kernel_rfl)))
        have NB319_320 := Aside0.mk (Q_NB319_320 (hon 7 (by kernel_rfl)) (hon 8 (by kernel_rfl)))
        have GW318 := Aside0.mk (Q_GW318 (hon 6 (by kernel_rfl)))
        have GE318 := Aside0.mk (Q_GE318 (hon 6 (by kernel_rfl)))
        have NB311_318 := Aside0.mk (Q_NB311_318 (hon 6 (by kernel_rfl)))
        have NB318_311 := Aside0.mk (Q_NB318_311 (hon 6 (by kernel_rfl)))
        have BK319 := Aside0.mk (Q_BK319 (hon 7 (by kernel_rfl)) hb_)
        have GW319 := Aside0.mk (Q_GW319 (hon 7 (by kernel_rfl)))
        have GE319 := Aside0.mk (Q_GE319 (hon 7 (by kernel_rfl)))
        have NB311_319 := Aside0.mk (Q_NB311_319 (hon 7 (by kernel_rfl)))
        have NB319_311 := Aside0.mk (Q_NB319_311 (hon 7 (by kernel_rfl)))
        have BK320 := Aside0.mk (Q_BK320 (hon 8 (by kernel_rfl)) (hoff 11 (by kernel_rfl)))
        have GW320 := Aside0.mk (Q_GW320 (hon 8 (by kernel_rfl)))
        have GE320 := Aside0.mk (Q_GE320 (hon 8 (by kernel_rfl)))
        have NB311_320 := Aside0.mk (Q_NB311_320 (hon 8 (by kernel_rfl)))
        have NB320_311 := Aside0.mk (Q_NB320_311 (hon 8 (by kernel_rfl)))
        have BK318 := Aside0.mk (Q_BK318_e9 (hon 9 (by kernel_rfl)))
        have hs20 : w'.cell? ⟨gb319, 0, none⟩ = some (.int .i64 0) := (blk_cell BK319.out 0).trans rfl
        have hfs20 := blk_frozen BK319.out 0
        have hns20_0 := NB311_319.out
        have hns20_1 := NB318_319.out
        have hns20_3 := NB320_319.out
        have hms20_0 := NB319_311.out
        have hms20_1 := NB319_318.out
        have hms20_3 := NB319_320.out
        have hs21 : w'.cell? ⟨gb319, 1, none⟩ = some (.int .i64 0) := (blk_cell BK319.out 1).trans rfl
        have hfs21 := blk_frozen BK319.out 1
        have hns21_0 := NB311_319.out
        have hns21_1 := NB318_319.out
        have hns21_3 := NB320_319.out
        have hms21_0 := NB319_311.out
        have hms21_1 := NB319_318.out
        have hms21_3 := NB319_320.out
        refine skip_ (w1 := ?_) (by rfl) rfl ?_ ?_
        rotate_left
        · go_simp
          rfl
        refine hK.out _ _ ⟨gb318, gb319, gb320, m6_, m7_, m8_, (by rw [ha.out]; exact putSel_none (v := undef) rfl), (by (with_reducible repeat (first | refine blk_drewN ?_ _ | refine blk_drew ?_ | refine blk_alloc ?_ _)); refine blk_far ?_ NB311_319.out _; (with_reducible repeat (first | refine blk_drewN ?_ _ | refine blk_drew ?_ | refine blk_alloc ?_ _)); refine blk_far ?_ NB311_319.out _; (with_reducible repeat (first | refine blk_drewN ?_ _ | refine blk_drew ?_ | refine blk_alloc ?_ _)); exact BK311.out), (by repeat (first | (with_reducible first | exact HB.out | apply below_alloc | apply pw_below_drewN | apply below_drew1 | refine below_set ?_ GE311.out | refine below_set ?_ GE318.out | refine below_set ?_ GE319.out | refine below_set ?_ GE320.out) | exact HB.out)), fun _ _ => NB319_318.out, fun _ _ => NB318_319.out, fun _ _ => NB320_318.out, fun _ _ => NB318_320.out, fun _ _ => NB320_319.out, fun _ _ => NB319_320.out, fun _ h1_ => absurd ((hon 9 (by kernel_rfl)).symm.trans h1_) (by decide), fun _ => GW318.out, fun _ => GE318.out, fun _ => NB311_318.out, fun _ => NB318_311.out, fun _ h1_ => absurd ((up_self b 10).symm.trans h1_) (by decide), fun _ => GW319.out, fun _ => GE319.out, fun _ => NB311_319.out, fun _ => NB319_311.out, fun _ _ => (by (with_reducible repeat (first | refine blk_drewN ?_ _ | refine blk_drew ?_ | refine blk_alloc ?_ _)); refine blk_far ?_ NB320_319.out _; (with_reducible repeat (first | refine blk_drewN ?_ _ | refine blk_drew ?_ | refine blk_alloc ?_ _)); refine blk_far ?_ NB320_319.out _; (with_reducible repeat (first | refine blk_drewN ?_ _ | refine blk_drew ?_ | refine blk_alloc ?_ _)); exact BK320.out), fun _ => GW320.out, fun _ => GE320.out, fun _ => NB311_320.out, fun _ => NB320_311.out, fun _ => (by (with_reducible repeat (first | refine blk_drewN ?_ _ | refine blk_drew ?_ | refine blk_alloc ?_ _)); refine blk_far ?_ NB318_319.out _; (with_reducible repeat (first | refine blk_drewN ?_ _ | refine blk_drew ?_ | refine blk_alloc ?_ _)); refine blk_far ?_ NB318_319.out _; (with_reducible repeat (first | refine blk_drewN ?_ _ | refine blk_drew ?_ | refine blk_alloc ?_ _)); exact BK318.out), fun _ => (by (with_reducible repeat (first | refine blk_drewN ?_ _ | refine blk_drew ?_ | refine blk_alloc ?_ _)); refine blk_put (cs := #[.int .i64 t314, .int .i64 0]) ?_ 1 _ rfl; (with_reducible repeat (first | refine blk_drewN ?_ _ | refine blk_drew ?_ | refine blk_alloc ?_ _)); refine blk_put (cs := #[.int .i64 0, .int .i64 0]) ?_ 0 _ rfl; (with_reducible repeat (first | refine blk_drewN ?_ _ | refine blk_drew ?_ | refine blk_alloc ?_ _)); exact BK319.out), fun h0_ => absurd ((hoff 11 (by kernel_rfl)).symm.trans h0_) (by decide), Q_X6_, Q_X7_, Q_X8_⟩
      refine steps_cons ?_ ?_
      · rintro b a w' ⟨gb318, gb319, gb320, m6_, m7_, m8_, ha, Q_BK311, Q_HB, Q_NB319_318, Q_NB318_319, Q_NB320_318, Q_NB318_320, Q_NB320_319, Q_NB319_320, Q_BK318, Q_GW318, Q_GE318, Q_NB311_318, Q_NB318_311, Q_BK319, Q_GW319, Q_GE319, Q_NB311_319, Q_NB319_311, Q_BK320, Q_GW320, Q_GE320, Q_NB311_320, Q_NB320_311, Q_BK318_e9, Q_BK319_e10, Q_BK320_e11, Q_X6_, Q_X7_, Q_X8_⟩ hb_ hon hoff
        refine ⟨_, rfl, fun K hK => ?_⟩
        have e7 : a.tmps[7]? = some (m8_) := by rw [ha]; exact putSel_on (e := (8, 7, m8_)) 8 rfl rfl (hon 8 (by kernel_rfl)) rfl
        rw [Q_X8_ (hon 8 (by kernel_rfl))] at e7
        have e13 : a.tmps[13]? = some (.agg #[.int .i64 t316, .int .i64 t317]) := by rw [ha]; exact putSel_on (e := (5, 13, .agg #[.int .i64 t316, .int .i64 t317])) 5 rfl rfl (hon 5 (by kernel_rfl)) rfl
        replace ha := Aside0.mk ha
        have BK311 := Aside0.mk Q_BK311
        have HB := Aside0.mk Q_HB
        have NB319_318 := Aside0.mk (Q_NB319_318 (hon 6 (by kernel_rfl)) (hon 7 (by kernel_rfl)))
        have NB318_319 := Aside0.mk (Q_NB318_319 (hon 6 (by kernel_rfl)) (hon 7 (by kernel_rfl)))
        have NB320_318 := Aside0.mk (Q_NB320_318 (hon 6 (by kernel_rfl)) (hon 8 (by kernel_rfl)))
        have NB318_320 := Aside0.mk (Q_NB318_320 (hon 6 (by kernel_rfl)) (hon 8 (by kernel_rfl)))
        have NB320_319 := Aside0.mk (Q_NB320_319 (hon 7 (by kernel_rfl)) (hon 8 (by kernel_rfl)))
        have NB319_320 := Aside0.mk (Q_NB319_320 (hon 7 (by kernel_rfl)) (hon 8 (by kernel_rfl)))
        have GW318 := Aside0.mk (Q_GW318 (hon 6 (by kernel_rfl)))
        have GE318 := Aside0.mk (Q_GE318 (hon 6 (by kernel_rfl)))
        have NB311_318 := Aside0.mk (Q_NB311_318 (hon 6 (by kernel_rfl)))
        have NB318_311 := Aside0.mk (Q_NB318_311 (hon 6 (by kernel_rfl)))
        have GW319 := Aside0.mk (Q_GW319 (hon 7 (by kernel_rfl)))
        have GE319 := Aside0.mk (Q_GE319 (hon 7 (by kernel_rfl)))
        have NB311_319 := Aside0.mk (Q_NB311_319 (hon 7 (by kernel_rfl)))
        have NB319_311 := Aside0.mk (Q_NB319_311 (hon 7 (by kernel_rfl)))
        have BK320 := Aside0.mk (Q_BK320 (hon 8 (by kernel_rfl)) hb_)
        have GW320 := Aside0.mk (Q_GW320 (hon 8 (by kernel_rfl)))
        have GE320 := Aside0.mk (Q_GE320 (hon 8 (by kernel_rfl)))
        have NB311_320 := Aside0.mk (Q_NB311_320 (hon 8 (by kernel_rfl)))
        have NB320_311 := Aside0.mk (Q_NB320_311 (hon 8 (by kernel_rfl)))
        have BK318 := Aside0.mk (Q_BK318_e9 (hon 9 (by kernel_rfl)))
        have BK319 := Aside0.mk (Q_BK319_e10 (hon 10 (by kernel_rfl)))
        have hs22 : w'.cell? ⟨gb320, 0, none⟩ = some (.int .i64 0) := (blk_cell BK320.out 0).trans rfl
        have hfs22 := blk_frozen BK320.out 0
        have hns22_0 := NB311_320.out
        have hns22_1 := NB318_320.out
        have hns22_2 := NB319_320.out
        have hms22_0 := NB320_311.out
        have hms22_1 := NB320_318.out
        have hms22_2 := NB320_319.out
        have hs23 : w'.cell? ⟨gb320, 1, none⟩ = some (.int .i64 0) := (blk_cell BK320.out 1).trans rfl
        have hfs23 := blk_frozen BK320.out 1
        have hns23_0 := NB311_320.out
        have hns23_1 := NB318_320.out
        have hns23_2 := NB319_320.out
        have hms23_0 := NB320_311.out
        have hms23_1 := NB320_318.out
        have hms23_2 := NB320_319.out
        refine skip_ (w1 := ?_) (by rfl) rfl ?_ ?_
        rotate_left
        · go_simp
          rfl
        refine hK.out _ _ ⟨gb318, gb319, gb320, m6_, m7_, m8_, (by rw [ha.out]; exact putSel_none (v := undef) rfl), (by (with_reducible repeat (first | refine blk_drewN ?_ _ | refine blk_drew ?_ | refine blk_alloc ?_ _)); refine blk_far ?_ NB311_320.out _; (with_reducible repeat (first | refine blk_drewN ?_ _ | refine blk_drew ?_ | refine blk_alloc ?_ _)); refine blk_far ?_ NB311_320.out _; (with_reducible repeat (first | refine blk_drewN ?_ _ | refine blk_drew ?_ | refine blk_alloc ?_ _)); exact BK311.out), (by repeat (first | (with_reducible first | exact HB.out | apply below_alloc | apply pw_below_drewN | apply below_drew1 | refine below_set ?_ GE311.out | refine below_set ?_ GE318.out | refine below_set ?_ GE319.out | refine below_set ?_ GE320.out) | exact HB.out)), fun _ _ => NB319_318.out, fun _ _ => NB318_319.out, fun _ _ => NB320_318.out, fun _ _ => NB318_320.out, fun _ _ => NB320_319.out, fun _ _ => NB319_320.out, fun _ h1_ => absurd ((hon 9 (by kernel_rfl)).symm.trans h1_) (by decide), fun _ => GW318.out, fun _ => GE318.out, fun _ => NB311_318.out, fun _ => NB318_311.out, fun _ h1_ => absurd ((hon 10 (by kernel_rfl)).symm.trans h1_) (by decide), fun _ => GW319.out, fun _ => GE319.out, fun _ => NB311_319.out, fun _ => NB319_311.out, fun _ h1_ => absurd ((up_self b 11).symm.trans h1_) (by decide), fun _ => GW320.out, fun _ => GE320.out, fun _ => NB311_320.out, fun _ => NB320_311.out, fun _ => (by (with_reducible repeat (first | refine blk_drewN ?_ _ | refine blk_drew ?_ | refine blk_alloc ?_ _)); refine blk_far ?_ NB318_320.out _; (with_reducible repeat (first | refine blk_drewN ?_ _ | refine blk_drew ?_ | refine blk_alloc ?_ _)); refine blk_far ?_ NB318_320.out _; (with_reducible repeat (first | refine blk_drewN ?_ _ | refine blk_drew ?_ | refine blk_alloc ?_ _)); exact BK318.out), fun _ => (by (with_reducible repeat (first | refine blk_drewN ?_ _ | refine blk_drew ?_ | refine blk_alloc ?_ _)); refine blk_far ?_ NB319_320.out _; (with_reducible repeat (first | refine blk_drewN ?_ _ | refine blk_drew ?_ | refine blk_alloc ?_ _)); refine blk_far ?_ NB319_320.out _; (with_reducible repeat (first | refine blk_drewN ?_ _ | refine blk_drew ?_ | refine blk_alloc ?_ _)); exact BK319.out), fun _ => (by (with_reducible repeat (first | refine blk_drewN ?_ _ | refine blk_drew ?_ | refine blk_alloc ?_ _)); refine blk_put (cs := #[.int .i64 t316, .int .i64 0]) ?_ 1 _ rfl; (with_reducible repeat (first | refine blk_drewN ?_ _ | refine blk_drew ?_ | refine blk_alloc ?_ _)); refine blk_put (cs := #[.int .i64 0, .int .i64 0]) ?_ 0 _ rfl; (with_reducible repeat (first | refine blk_drewN ?_ _ | refine blk_drew ?_ | refine blk_alloc ?_ _)); exact BK320.out), Q_X6_, Q_X7_, Q_X8_⟩
      exact steps_nil
    rintro b a w23 hall ⟨gb318, gb319, gb320, m6_, m7_, m8_, ha, Q_BK311, Q_HB, Q_NB319_318, Q_NB318_319, Q_NB320_318, Q_NB318_320, Q_NB320_319, Q_NB319_320, Q_BK318, Q_GW318, Q_GE318, Q_NB311_318, Q_NB318_311, Q_BK319, Q_GW319, Q_GE319, Q_NB311_319, Q_NB319_311, Q_BK320, Q_GW320, Q_GE320, Q_NB311_320, Q_NB320_311, Q_BK318_e9, Q_BK319_e10, Q_BK320_e11, Q_X6_, Q_X7_, Q_X8_⟩
    clear BK311 HB
    have hb0_ := hall 0 (by kernel_rfl)
    have hb1_ := hall 1 (by kernel_rfl)
    have hb2_ := hall 2 (by kernel_rfl)
    have hb3_ := hall 3 (by kernel_rfl)
    have hb4_ := hall 4 (by kernel_rfl)
    have hb5_ := hall 5 (by kernel_rfl)
    have hb6_ := hall 6 (by kernel_rfl)
    have hb7_ := hall 7 (by kernel_rfl)
    have hb8_ := hall 8 (by kernel_rfl)
    have hb9_ := hall 9 (by kernel_rfl)
    have hb10_ := hall 10 (by kernel_rfl)
    have hb11_ := hall 11 (by kernel_rfl)
    subst ha
    obtain rfl := Q_X6_ hb6_
    obtain rfl := Q_X7_ hb7_
    obtain rfl := Q_X8_ hb8_
    simp only [putSel, hb0_, hb1_, hb2_, hb3_, hb4_, hb5_, hb6_, hb7_, hb8_, hb9_, hb10_, hb11_, if_true, Act.put, List.setIfInBounds_toArray, List.set_cons_zero, List.set_cons_succ]
    have BK311 := Aside0.mk Q_BK311
    clear Q_BK311
    have HB := Aside0.mk Q_HB
    clear Q_HB
    have NB319_318 := Aside0.mk (Q_NB319_318 hb6_ hb7_)
    clear Q_NB319_318
    have NB318_319 := Aside0.mk (Q_NB318_319 hb6_ hb7_)
    clear Q_NB318_319
    have NB320_318 := Aside0.mk (Q_NB320_318 hb6_ hb8_)
    clear Q_NB320_318
    have NB318_320 := Aside0.mk (Q_NB318_320 hb6_ hb8_)
    clear Q_NB318_320
    have NB320_319 := Aside0.mk (Q_NB320_319 hb7_ hb8_)
    clear Q_NB320_319
    have NB319_320 := Aside0.mk (Q_NB319_320 hb7_ hb8_)
    clear Q_NB319_320
    clear Q_BK318
    have GW318 := Aside0.mk (Q_GW318 hb6_)
    clear Q_GW318
    have GE318 := Aside0.mk (Q_GE318 hb6_)
    clear Q_GE318
    have NB311_318 := Aside0.mk (Q_NB311_318 hb6_)
    clear Q_NB311_318
    have NB318_311 := Aside0.mk (Q_NB318_311 hb6_)
    clear Q_NB318_311
    clear Q_BK319
    have GW319 := Aside0.mk (Q_GW319 hb7_)
    clear Q_GW319
    have GE319 := Aside0.mk (Q_GE319 hb7_)
    clear Q_GE319
    have NB311_319 := Aside0.mk (Q_NB311_319 hb7_)
    clear Q_NB311_319
    have NB319_311 := Aside0.mk (Q_NB319_311 hb7_)
    clear Q_NB319_311
    clear Q_BK320
    have GW320 := Aside0.mk (Q_GW320 hb8_)
    clear Q_GW320
    have GE320 := Aside0.mk (Q_GE320 hb8_)
    clear Q_GE320
    have NB311_320 := Aside0.mk (Q_NB311_320 hb8_)
    clear Q_NB311_320
    have NB320_311 := Aside0.mk (Q_NB320_311 hb8_)
    clear Q_NB320_311
    have BK318 := Aside0.mk (Q_BK318_e9 hb9_)
    clear Q_BK318_e9
    have BK319 := Aside0.mk (Q_BK319_e10 hb10_)
    clear Q_BK319_e10
    have BK320 := Aside0.mk (Q_BK320_e11 hb11_)
    clear Q_BK320_e11
    clear hall hb0_ hb1_ hb2_ hb3_ hb4_ hb5_ hb6_ hb7_ hb8_ hb9_ hb10_ hb11_
    try go_wp2
    have n0_ := Aside0.mk (blk_drew BK311.out)
    have n1_ := Aside0.mk (blk_drew BK318.out)
    have n2_ := Aside0.mk (blk_drew BK319.out)
    have n3_ := Aside0.mk (blk_drew BK320.out)
    have n4_ := Aside0.mk (below_drew1 HB.out)
    clear BK311
    clear BK318
    clear BK319
    clear BK320
    clear HB
    have BK311 := n0_
    have BK318 := n1_
    have BK319 := n2_
    have BK320 := n3_
    have HB := n4_
    clear n0_ n1_ n2_ n3_ n4_
    refine start_ (n := 5) (S := fun w' => w'.cell? ⟨gb311, 0, none⟩ = some (.int .i64 a0_0) ∧ w'.cell? ⟨gb311, 1, none⟩ = some (.int .i64 a0_1)) (ds := []) #[false, false, false, false, false] (by kernel_rfl) rfl rfl ⟨(blk_cell BK311.out 0).trans rfl, (blk_cell BK311.out 1).trans rfl⟩ (fun hHeld => ?_)
    generalize w23.drew = w24 at BK311 BK318 BK319 BK320 HB hHeld ⊢
    refine take_ (i := 0) (N := some 14) (v := ?_) (a' := ?_) #[true, false, false, false, false] rfl rfl (by kernel_rfl) (fun _ _ _ h => h) (Or.inl ⟨by rfl, ?_⟩) hHeld ?_ ?_
    rotate_left
    · rintro w' ⟨s0, s1⟩
      go_simp
      with_reducible rfl
    rotate_left
    · simp only [Act.put, List.setIfInBounds_toArray, List.set_cons_zero, List.set_cons_succ, i64_w, i32_w]
      rfl
    refine take_ (i := 2) (N := some 16) (v := ?_) (a' := ?_) #[true, false, true, false, false] rfl rfl (by kernel_rfl) (fun _ _ _ h => h) (Or.inl ⟨by rfl, ?_⟩) hHeld ?_ ?_
    rotate_left
    · rintro w' ⟨s0, s1⟩
      go_simp
      with_reducible rfl
    rotate_left
    · simp only [Act.put, List.setIfInBounds_toArray, List.set_cons_zero, List.set_cons_succ, i64_w, i32_w]
      rfl
    refine one_ (i := 1) (N := some 15) #[true, true, true, false, false] rfl rfl (by kernel_rfl) (by decide) (fun K hK => ?_)
    refine goes_ Tryz.func11 (by kernel_rfl) rfl #[.agg #[.int .i64 a0_0, .int .i64 a0_1]] (by rfl) rfl rfl (by (try simp only [List.map_toArray, List.map_cons, List.map_nil]); first | done | rfl | (simp only [List.length_drop, List.length_take]; rfl)) ?_
    with_reducible refine (xnum_Right.calls a0_0 a0_1 t321 _ ?side1 A6.out).mono ?_
    (case side1 => first | exact HLD | exact Laid.below HLD (by repeat (first | (with_reducible first | exact HB.out | apply below_alloc | apply pw_below_drewN | apply below_drew1 | refine below_set ?_ GE311.out | refine below_set ?_ GE318.out | refine below_set ?_ GE319.out | refine below_set ?_ GE320.out) | exact HB.out)))
    rintro e w25 ⟨rfl, hb⟩
    refine ⟨_, rfl, ?_⟩
    have n0_ := Aside0.mk (blk_below (g := gb311) (o := .cells #[.int .i64 a0_0, .int .i64 a0_1] 24 (0, 0)) (by (with_reducible repeat (first | refine blk_drewN ?_ _ | refine blk_drew ?_ | refine blk_alloc ?_ _)); exact BK311.out) hb)
    have n1_ := Aside0.mk (blk_below (g := gb318) (o := .cells #[.int .i64 t312, .int .i64 t313] 24 (0, 0)) (by (with_reducible repeat (first | refine blk_drewN ?_ _ | refine blk_drew ?_ | refine blk_alloc ?_ _)); exact BK318.out) hb)
    have n2_ := Aside0.mk (blk_below (g := gb319) (o := .cells #[.int .i64 t314, .int .i64 t315] 24 (0, 0)) (by (with_reducible repeat (first | refine blk_drewN ?_ _ | refine blk_drew ?_ | refine blk_alloc ?_ _)); exact BK319.out) hb)
    have n3_ := Aside0.mk (blk_below (g := gb320) (o := .cells #[.int .i64 t316, .int .i64 t317] 24 (0, 0)) (by (with_reducible repeat (first | refine blk_drewN ?_ _ | refine blk_drew ?_ | refine blk_alloc ?_ _)); exact BK320.out) hb)
    have n4_ := Aside0.mk (below_step (by repeat (first | (with_reducible first | exact HB.out | apply below_alloc | apply pw_below_drewN | apply below_drew1 | refine below_set ?_ GE311.out | refine below_set ?_ GE318.out | refine below_set ?_ GE319.out | refine below_set ?_ GE320.out) | exact HB.out)) hb)
    clear BK311
    clear BK318
    clear BK319
    clear BK320
    clear HB
    have BK311 := n0_
    have BK318 := n1_
    have BK319 := n2_
    have BK320 := n3_
    have HB := n4_
    clear n0_ n1_ n2_ n3_ n4_
    (try clear hb)
    (try clear hb2)
    (try clear hk)
    (try clear hi)
    refine hK.out _ _ ⟨(blk_cell BK311.out 0).trans rfl, (blk_cell BK311.out 1).trans rfl⟩ (fun hHeld => ?_)
    clear hK K
    refine norm_ (a' := ?_) ?_ ?_
    rotate_left
    · show Act.put _ (some 15) _ = _
      simp only [Act.put, List.setIfInBounds_toArray, List.set_cons_zero, List.set_cons_succ, i64_w, i32_w]
      rfl
    refine one_ (i := 3) (N := some 17) #[true, true, true, true, false] rfl rfl (by kernel_rfl) (by decide) (fun K hK => ?_)
    refine goes_ Tryz.func33 (by kernel_rfl) rfl #[.agg #[.int .i64 a0_0, .int .i64 a0_1]] (by rfl) rfl rfl (by (try simp only [List.map_toArray, List.map_cons, List.map_nil]); first | done | rfl | (simp only [List.length_drop, List.length_take]; rfl)) ?_
    with_reducible refine (stencilref02_Right.calls a0_0 a0_1 t322 _ ?side1 A7.out).mono ?_
    (case side1 => first | exact HLD | exact Laid.below HLD (by repeat (first | (with_reducible first | exact HB.out | apply below_alloc | apply pw_below_drewN | apply below_drew1 | refine below_set ?_ GE311.out | refine below_set ?_ GE318.out | refine below_set ?_ GE319.out | refine below_set ?_ GE320.out) | exact HB.out)))
    rintro e w26 ⟨rfl, hb⟩
    refine ⟨_, rfl, ?_⟩
    have n0_ := Aside0.mk (blk_below (g := gb311) (o := .cells #[.int .i64 a0_0, .int .i64 a0_1] 24 (0, 0)) (by (with_reducible repeat (first | refine blk_drewN ?_ _ | refine blk_drew ?_ | refine blk_alloc ?_ _)); exact BK311.out) hb)
    have n1_ := Aside0.mk (blk_below (g := gb318) (o := .cells #[.int .i64 t312, .int .i64 t313] 24 (0, 0)) (by (with_reducible repeat (first | refine blk_drewN ?_ _ | refine blk_drew ?_ | refine blk_alloc ?_ _)); exact BK318.out) hb)
    have n2_ := Aside0.mk (blk_below (g := gb319) (o := .cells #[.int .i64 t314, .int .i64 t315] 24 (0, 0)) (by (with_reducible repeat (first | refine blk_drewN ?_ _ | refine blk_drew ?_ | refine blk_alloc ?_ _)); exact BK319.out) hb)
    have n3_ := Aside0.mk (blk_below (g := gb320) (o := .cells #[.int .i64 t316, .int .i64 t317] 24 (0, 0)) (by (with_reducible repeat (first | refine blk_drewN ?_ _ | refine blk_drew ?_ | refine blk_alloc ?_ _)); exact BK320.out) hb)
    have n4_ := Aside0.mk (below_step (by repeat (first | (with_reducible first | exact HB.out | apply below_alloc | apply pw_below_drewN | apply below_drew1 | refine below_set ?_ GE311.out | refine below_set ?_ GE318.out | refine below_set ?_ GE319.out | refine below_set ?_ GE320.out) | exact HB.out)) hb)
    clear BK311
    clear BK318
    clear BK319
    clear BK320
    clear HB
    have BK311 := n0_
    have BK318 := n1_
    have BK319 := n2_
    have BK320 := n3_
    have HB := n4_
    clear n0_ n1_ n2_ n3_ n4_
    (try clear hb)
    (try clear hb2)
    (try clear hk)
    (try clear hi)
    refine hK.out _ _ ⟨(blk_cell BK311.out 0).trans rfl, (blk_cell BK311.out 1).trans rfl⟩ (fun hHeld => ?_)
    clear hK K
    refine norm_ (a' := ?_) ?_ ?_
    rotate_left
    · show Act.put _ (some 17) _ = _
      simp only [Act.put, List.setIfInBounds_toArray, List.set_cons_zero, List.set_cons_succ, i64_w, i32_w]
      rfl
    refine pure_ (i := 4) (N := some 18) (v := ?_) (a' := ?_) #[true, true, true, true, true] rfl rfl (by kernel_rfl) (fun _ _ _ h => h) (Or.inl ⟨by rfl, ?_⟩) ?_ ?_
    rotate_left
    · intro w'
      go_simp
      with_reducible rfl
    rotate_left
    · simp only [Act.put, List.setIfInBounds_toArray, List.set_cons_zero, List.set_cons_succ, i64_w, i32_w]
      rfl
    refine done_ (by kernel_rfl) ?_
    try go_wp2
    go_ret
    exact ⟨by first | rfl | (simp [errW_none, errW_some] <;> rfl) | (simp [*, errW_none, errW_some] <;> rfl), by repeat (first | (with_reducible first | exact HB.out | apply below_alloc | apply pw_below_drewN | apply below_drew1 | refine below_set ?_ GE311.out | refine below_set ?_ GE318.out | refine below_set ?_ GE319.out | refine below_set ?_ GE320.out) | exact HB.out)⟩
  · rw [if_neg c8] at H
    have c8b0 : (t321 != t322) = false := by simpa using c8
    (try (have c8b1 : decide (t321 = t322) = true := by simpa using c8))
    (try (have c8b2 : (t321 == t322) = true := by simpa using c8))
    clear c8
    replace H := Option.bind_eq_some_iff.mp H
    obtain ⟨t323, A270, H⟩ := H
    replace H : (if t323 = true then ((stencillaw02_live.f k).bind fun t325 => (if t325 = true then ((stencilref02_Floor.f a0_0 a0_1).bind fun bt326 => (if (t312 == bt326.1 && (t313 == bt326.2)) = true then ((stencilref02_Ceiling.f a0_0 a0_1).bind fun bt328 => (if (t314 == bt328.1 && (t315 == bt328.2)) = true then ((stencilref02_Round.f a0_0 a0_1).bind fun bt330 => (if (t316 == bt330.1 && (t317 == bt330.2)) = true then ((xnum_Int.f a1).bind fun bt332 => ((stencilref02_Int.f a1).bind fun bt334 => (some (bt332.1 == bt334.1 && (bt332.2 == bt334.2))))) else (none))) else (none))) else (none))) else (none))) else ((stencillaw02_live.f k).bind fun t324 => (some t324))) = some r := H
    have A27 := Aside0.mk A270
    clear A270
    by_cases c28 : t323 = true
    · subst c28
      have H1 : ((stencillaw02_live.f k).bind fun t325 => (if t325 = true then ((stencilref02_Floor.f a0_0 a0_1).bind fun bt326 => (if (t312 == bt326.1 && (t313 == bt326.2)) = true then ((stencilref02_Ceiling.f a0_0 a0_1).bind fun bt328 => (if (t314 == bt328.1 && (t315 == bt328.2)) = true then ((stencilref02_Round.f a0_0 a0_1).bind fun bt330 => (if (t316 == bt330.1 && (t317 == bt330.2)) = true then ((xnum_Int.f a1).bind fun bt332 => ((stencilref02_Int.f a1).bind fun bt334 => (some (bt332.1 == bt334.1 && (bt332.2 == bt334.2))))) else (none))) else (none))) else (none))) else (none))) = some r := by rw [if_pos rfl] at H; exact H
      clear H
      have H := H1
      clear H1
      replace H := Option.bind_eq_some_iff.mp H
      obtain ⟨t325, A290, H⟩ := H
      replace H : (if t325 = true then ((stencilref02_Floor.f a0_0 a0_1).bind fun bt326 => (if (t312 == bt326.1 && (t313 == bt326.2)) = true then ((stencilref02_Ceiling.f a0_0 a0_1).bind fun bt328 => (if (t314 == bt328.1 && (t315 == bt328.2)) = true then ((stencilref02_Round.f a0_0 a0_1).bind fun bt330 => (if (t316 == bt330.1 && (t317 == bt330.2)) = true then ((xnum_Int.f a1).bind fun bt332 => ((stencilref02_Int.f a1).bind fun bt334 => (some (bt332.1 == bt334.1 && (bt332.2 == bt334.2))))) else (none))) else (none))) else (none))) else (none)) = some r := H
      have A29 := Aside0.mk A290
      clear A290
      by_cases c30 : t325 = true
      · subst c30
        have H1 : ((stencilref02_Floor.f a0_0 a0_1).bind fun bt326 => (if (t312 == bt326.1 && (t313 == bt326.2)) = true then ((stencilref02_Ceiling.f a0_0 a0_1).bind fun bt328 => (if (t314 == bt328.1 && (t315 == bt328.2)) = true then ((stencilref02_Round.f a0_0 a0_1).bind fun bt330 => (if (t316 == bt330.1 && (t317 == bt330.2)) = true then ((xnum_Int.f a1).bind fun bt332 => ((stencilref02_Int.f a1).bind fun bt334 => (some (bt332.1 == bt334.1 && (bt332.2 == bt334.2))))) else (none))) else (none))) else (none))) = some r := by rw [if_pos rfl] at H; exact H
        clear H
        have H := H1
        clear H1
        replace H := Option.bind_eq_some_iff.mp H
        obtain ⟨⟨t326, t327⟩, A310, H⟩ := H
        replace H : (if (t312 == t326 && (t313 == t327)) = true then ((stencilref02_Ceiling.f a0_0 a0_1).bind fun bt328 => (if (t314 == bt328.1 && (t315 == bt328.2)) = true then ((stencilref02_Round.f a0_0 a0_1).bind fun bt330 => (if (t316 == bt330.1 && (t317 == bt330.2)) = true then ((xnum_Int.f a1).bind fun bt332 => ((stencilref02_Int.f a1).bind fun bt334 => (some (bt332.1 == bt334.1 && (bt332.2 == bt334.2))))) else (none))) else (none))) else (none)) = some r := H
        have A31 := Aside0.mk A310
        clear A310
        by_cases c32 : (t312 == t326 && (t313 == t327)) = true
        · rw [if_pos c32] at H
          have c32b0 : (t312 == t326 && (t313 == t327)) = true := c32
          (try (have c32b1 : decide (t312 = t326 && (t313 == t327)) = true := by simpa using c32))
          (try (have c32b2 : (t312 == t326 && (t313 == t327)) = true := by simpa using c32))
          clear c32
          replace H := Option.bind_eq_some_iff.mp H
          obtain ⟨⟨t328, t329⟩, A330, H⟩ := H
          replace H : (if (t314 == t328 && (t315 == t329)) = true then ((stencilref02_Round.f a0_0 a0_1).bind fun bt330 => (if (t316 == bt330.1 && (t317 == bt330.2)) = true then ((xnum_Int.f a1).bind fun bt332 => ((stencilref02_Int.f a1).bind fun bt334 => (some (bt332.1 == bt334.1 && (bt332.2 == bt334.2))))) else (none))) else (none)) = some r := H
          have A33 := Aside0.mk A330
          clear A330
          by_cases c34 : (t314 == t328 && (t315 == t329)) = true
          · rw [if_pos c34] at H
            have c34b0 : (t314 == t328 && (t315 == t329)) = true := c34
            (try (have c34b1 : decide (t314 = t328 && (t315 == t329)) = true := by simpa using c34))
            (try (have c34b2 : (t314 == t328 && (t315 == t329)) = true := by simpa using c34))
            clear c34
            replace H := Option.bind_eq_some_iff.mp H
            obtain ⟨⟨t330, t331⟩, A350, H⟩ := H
            replace H : (if (t316 == t330 && (t317 == t331)) = true then ((xnum_Int.f a1).bind fun bt332 => ((stencilref02_Int.f a1).bind fun bt334 => (some (bt332.1 == bt334.1 && (bt332.2 == bt334.2))))) else (none)) = some r := H
            have A35 := Aside0.mk A350
            clear A350
            by_cases c36 : (t316 == t330 && (t317 == t331)) = true
            · rw [if_pos c36] at H
              have c36b0 : (t316 == t330 && (t317 == t331)) = true := c36
              (try (have c36b1 : decide (t316 = t330 && (t317 == t331)) = true := by simpa using c36))
              (try (have c36b2 : (t316 == t330 && (t317 == t331)) = true := by simpa using c36))
              clear c36
              replace H := Option.bind_eq_some_iff.mp H
              obtain ⟨⟨t332, t333⟩, A370, H⟩ := H
              replace H : ((stencilref02_Int.f a1).bind fun bt334 => (some (t332 == bt334.1 && (t333 == bt334.2)))) = some r := H
              have A37 := Aside0.mk A370
              clear A370
              replace H := Option.bind_eq_some_iff.mp H
              obtain ⟨⟨t334, t335⟩, A380, H⟩ := H
              replace H : (some (t332 == t334 && (t333 == t335))) = some r := H
              have A38 := Aside0.mk A380
              clear A380
              obtain rfl := Option.some.inj H
              go_enter Tryz.func7, Tryz.ntmps7
              try go_wp2_with (first | ((with_reducible refine gate_dst (N := 2) rfl ?_); refine box_event ?hg (N := 2) ?hd (cs := #[.int .i64 a0_0, .int .i64 a0_1]) (t := 24) ?hr ?_; (case hd => rfl); (case hg => rfl); (case hr => first | (go_simp; done) | (go_simp; rfl)); intro gb311 hg w39 hbox hb; have n0_ := Aside0.mk (below_step (by repeat (first | (with_reducible first | exact HB.out | apply below_alloc | apply pw_below_drewN | apply below_drew1) | exact HB.out)) hb); have n1_ := Aside0.mk (hbox); have n2_ := Aside0.mk ((by rw [hg]; exact (below_size (by repeat (first | (with_reducible first | exact HB.out | apply below_alloc | apply pw_below_drewN | apply below_drew1) | exact HB.out))) : w.heap.size ≤ gb311)); have n3_ := Aside0.mk ((by rw [hg]; exact (below_size (by repeat (first | (with_reducible first | exact HB.out | apply below_alloc | apply pw_below_drewN | apply below_drew1) | exact HB.out))) : w.heap.size ≤ gb311)); clear HB; have HB := n0_; have BK311 := n1_; have GW311 := n2_; have GE311 := n3_; clear n0_ n1_ n2_ n3_; clear hb hbox hg))
              have n0_ := Aside0.mk (blk_drew BK311.out)
              have n1_ := Aside0.mk (below_drew1 HB.out)
              clear BK311
              clear HB
              have BK311 := n0_
              have HB := n1_
              clear n0_ n1_
              refine start_ (n := 12) (S := fun w' => True) (ds := []) #[false, false, false, false, false, false, false, false, false, false, false, false] (by kernel_rfl) rfl rfl trivial (fun hHeld => ?_); refine with_tabW stencillaw02_XnumWhole.tab1 stencillaw02_XnumWhole.bits1 (fun HT_ HW_ => ?_)
              generalize w39.drew = w40 at BK311 HB hHeld ⊢
              refine inv_at [0, 1, 2, 3, 4, 5, 6, 7, 8, 9, 10, 11] (fun a0_ b a w' => ∃ (gb318 : Nat) (gb319 : Nat) (gb320 : Nat) (m6_ : Value) (m7_ : Value) (m8_ : Value), a = putSel a0_ b [(0, 8, .agg #[.int .i64 a0_0, .int .i64 a0_1]), (1, 9, .agg #[.int .i64 t312, .int .i64 t313]), (2, 10, .agg #[.int .i64 a0_0, .int .i64 a0_1]), (3, 11, .agg #[.int .i64 t314, .int .i64 t315]), (4, 12, .agg #[.int .i64 a0_0, .int .i64 a0_1]), (5, 13, .agg #[.int .i64 t316, .int .i64 t317]), (6, 5, m6_), (7, 6, m7_), (8, 7, m8_)] ∧ (w'.heap[gb311]? = some (.cells #[.int .i64 a0_0, .int .i64 a0_1] 24 (0, 0))) ∧ (Below w.heap.size w w') ∧ (b 6 = true → b 7 = true → gb319 ≠ gb318) ∧ (b 6 = true → b 7 = true → gb318 ≠ gb319) ∧ (b 6 = true → b 8 = true → gb320 ≠ gb318) ∧ (b 6 = true → b 8 = true → gb318 ≠ gb320) ∧ (b 7 = true → b 8 = true → gb320 ≠ gb319) ∧ (b 7 = true → b 8 = true → gb319 ≠ gb320) ∧ (b 6 = true → b 9 = false → w'.heap[gb318]? = some (.cells #[.int .i64 0, .int .i64 0] 24 (0, 0))) ∧ (b 6 = true → w.heap.size ≤ gb318) ∧ (b 6 = true → w.heap.size ≤ gb318) ∧ (b 6 = true → gb311 ≠ gb318) ∧ (b 6 = true → gb318 ≠ gb311) ∧ (b 7 = true → b 10 = false → w'.heap[gb319]? = some (.cells #[.int .i64 0, .int .i64 0] 24 (0, 0))) ∧ (b 7 = true → w.heap.size ≤ gb319) ∧ (b 7 = true → w.heap.size ≤ gb319) ∧ (b 7 = true → gb311 ≠ gb319) ∧ (b 7 = true → gb319 ≠ gb311) ∧ (b 8 = true → b 11 = false → w'.heap[gb320]? = some (.cells #[.int .i64 0, .int .i64 0] 24 (0, 0))) ∧ (b 8 = true → w.heap.size ≤ gb320) ∧ (b 8 = true → w.heap.size ≤ gb320) ∧ (b 8 = true → gb311 ≠ gb320) ∧ (b 8 = true → gb320 ≠ gb311) ∧ (b 9 = true → w'.heap[gb318]? = some (.cells #[.int .i64 t312, .int .i64 t313] 24 (0, 0))) ∧ (b 10 = true → w'.heap[gb319]? = some (.cells #[.int .i64 t314, .int .i64 t315] 24 (0, 0))) ∧ (b 11 = true → w'.heap[gb320]? = some (.cells #[.int .i64 t316, .int .i64 t317] 24 (0, 0))) ∧ (b 6 = true → (m6_ : Value) = .pointer (some ⟨gb318, 0, none⟩)) ∧ (b 7 = true → (m7_ : Value) = .pointer (some ⟨gb319, 0, none⟩)) ∧ (b 8 = true → (m8_ : Value) = .pointer (some ⟨gb320, 0, none⟩))) HT_.out HW_.out (by kernel_rfl) (by kernel_rfl) ?_ ?_ ?_
              · exact ⟨0, 0, 0, .bool false, .bool false, .bool false, by simp only [putSel, Bool.false_eq_true, if_false], BK311.out, HB.out, fun h_ => absurd h_ (by decide), fun h_ => absurd h_ (by decide), fun h_ => absurd h_ (by decide), fun h_ => absurd h_ (by decide), fun h_ => absurd h_ (by decide), fun h_ => absurd h_ (by decide), fun h_ => absurd h_ (by decide), fun h_ => absurd h_ (by decide), fun h_ => absurd h_ (by decide), fun h_ => absurd h_ (by decide), fun h_ => absurd h_ (by decide), fun h_ => absurd h_ (by decide), fun h_ => absurd h_ (by decide), fun h_ => absurd h_ (by decide), fun h_ => absurd h_ (by decide), fun h_ => absurd h_ (by decide), fun h_ => absurd h_ (by decide), fun h_ => absurd h_ (by decide), fun h_ => absurd h_ (by decide), fun h_ => absurd h_ (by decide), fun h_ => absurd h_ (by decide), fun h_ => absurd h_ (by decide), fun h_ => absurd h_ (by decide), fun h_ => absurd h_ (by decide), fun h_ => absurd h_ (by decide), fun h_ => absurd h_ (by decide), fun h_ => absurd h_ (by decide)⟩
              · skip
                clear BK311 HB
                refine steps_cons ?_ ?_
                · rintro b a w' ⟨gb318, gb319, gb320, m6_, m7_, m8_, ha, Q_BK311, Q_HB, Q_NB319_318, Q_NB318_319, Q_NB320_318, Q_NB318_320, Q_NB320_319, Q_NB319_320, Q_BK318, Q_GW318, Q_GE318, Q_NB311_318, Q_NB318_311, Q_BK319, Q_GW319, Q_GE319, Q_NB311_319, Q_NB319_311, Q_BK320, Q_GW320, Q_GE320, Q_NB311_320, Q_NB320_311, Q_BK318_e9, Q_BK319_e10, Q_BK320_e11, Q_X6_, Q_X7_, Q_X8_⟩ hb_ hon hoff
                  refine ⟨_, rfl, fun K hK => ?_⟩
                  have e2 : a.tmps[2]? = some (.pointer (some ⟨gb311, 0, none⟩)) := by rw [ha]; exact (putSel_off rfl).trans rfl
                  replace ha := Aside0.mk ha
                  have BK311 := Aside0.mk Q_BK311
                  have HB := Aside0.mk Q_HB
                  have hc0_ : w'.cell? ⟨gb311, 0, none⟩ = some (.int .i64 a0_0) := (blk_cell BK311.out 0).trans rfl
                  have hc1_ : w'.cell? ⟨gb311, 1, none⟩ = some (.int .i64 a0_1) := (blk_cell BK311.out 1).trans rfl
                  refine value_ (w1 := w') (v := .agg #[.int .i64 a0_0, .int .i64 a0_1]) (by rfl) rfl ?_ ?_
                  · go_simp
                    (try simp only [i64_w])
                    try rfl
                  refine hK.out _ _ ⟨gb318, gb319, gb320, m6_, m7_, m8_, (by rw [ha.out]; exact putSel_upk 0 hb_ rfl rfl rfl), Q_BK311, Q_HB, Q_NB319_318, Q_NB318_319, Q_NB320_318, Q_NB318_320, Q_NB320_319, Q_NB319_320, Q_BK318, Q_GW318, Q_GE318, Q_NB311_318, Q_NB318_311, Q_BK319, Q_GW319, Q_GE319, Q_NB311_319, Q_NB319_311, Q_BK320, Q_GW320, Q_GE320, Q_NB311_320, Q_NB320_311, fun h0_ => absurd ((hoff 9 (by kernel_rfl)).symm.trans h0_) (by decide), fun h0_ => absurd ((hoff 10 (by kernel_rfl)).symm.trans h0_) (by decide), fun h0_ => absurd ((hoff 11 (by kernel_rfl)).symm.trans h0_) (by decide), Q_X6_, Q_X7_, Q_X8_⟩
                refine steps_cons ?_ ?_
                · rintro b a w' ⟨gb318, gb319, gb320, m6_, m7_, m8_, ha, Q_BK311, Q_HB, Q_NB319_318, Q_NB318_319, Q_NB320_318, Q_NB318_320, Q_NB320_319, Q_NB319_320, Q_BK318, Q_GW318, Q_GE318, Q_NB311_318, Q_NB318_311, Q_BK319, Q_GW319, Q_GE319, Q_NB311_319, Q_NB319_311, Q_BK320, Q_GW320, Q_GE320, Q_NB311_320, Q_NB320_311, Q_BK318_e9, Q_BK319_e10, Q_BK320_e11, Q_X6_, Q_X7_, Q_X8_⟩ hb_ hon hoff
                  refine ⟨_, rfl, fun K hK => ?_⟩
                  have e8 : a.tmps[8]? = some (.agg #[.int .i64 a0_0, .int .i64 a0_1]) := by rw [ha]; exact putSel_on (e := (0, 8, .agg #[.int .i64 a0_0, .int .i64 a0_1])) 0 rfl rfl (hon 0 (by kernel_rfl)) rfl
                  replace ha := Aside0.mk ha
                  have BK311 := Aside0.mk Q_BK311
                  have HB := Aside0.mk Q_HB
                  refine goes_ Tryz.func35 (by kernel_rfl) rfl #[.agg #[.int .i64 a0_0, .int .i64 a0_1]] (by rfl) rfl rfl (by first | (simp only [List.map_toArray, List.map_cons, List.map_nil, Act.eval, Array.getD_eq_getD_getElem?, Option.getD_some, e8]; done) | (simp only [List.map_toArray, List.map_cons, List.map_nil, Act.eval, Array.getD_eq_getD_getElem?, Option.getD_some, e8]; rfl)) ?_
                  with_reducible refine (xnum_Floor.calls a0_0 a0_1 t312 t313 _ ?side1 A3.out).mono ?_
                  (case side1 => first | exact HLD | exact Laid.below HLD (by repeat (first | (with_reducible first | exact HB.out | apply below_alloc | apply pw_below_drewN | apply below_drew1 | refine below_set ?_ GE311.out) | exact HB.out)))
                  rintro e w41 ⟨rfl, hb⟩
                  refine ⟨_, rfl, ?_⟩
                  have n0_ := Aside0.mk (blk_below (g := gb311) (o := .cells #[.int .i64 a0_0, .int .i64 a0_1] 24 (0, 0)) (by (with_reducible repeat (first | refine blk_drewN ?_ _ | refine blk_drew ?_ | refine blk_alloc ?_ _)); exact BK311.out) hb)
                  have n1_ := Aside0.mk (below_step (by repeat (first | (with_reducible first | exact HB.out | apply below_alloc | apply pw_below_drewN | apply below_drew1 | refine below_set ?_ GE311.out) | exact HB.out)) hb)
                  have z_BK318 := fun (h0_ : b 6 = true) (h1_ : b 9 = false) => (show w41.heap[gb318]? = some (.cells #[.int .i64 0, .int .i64 0] 24 (0, 0)) from by first | exact (blk_below (g := gb318) (o := .cells #[.int .i64 0, .int .i64 0] 24 (0, 0)) (by (with_reducible repeat (first | refine blk_drewN ?_ _ | refine blk_drew ?_ | refine blk_alloc ?_ _)); exact (Q_BK318 h0_ h1_)) hb))
                  have z_BK319 := fun (h0_ : b 7 = true) (h1_ : b 10 = false) => (show w41.heap[gb319]? = some (.cells #[.int .i64 0, .int .i64 0] 24 (0, 0)) from by first | exact (blk_below (g := gb319) (o := .cells #[.int .i64 0, .int .i64 0] 24 (0, 0)) (by (with_reducible repeat (first | refine blk_drewN ?_ _ | refine blk_drew ?_ | refine blk_alloc ?_ _)); exact (Q_BK319 h0_ h1_)) hb))
                  have z_BK320 := fun (h0_ : b 8 = true) (h1_ : b 11 = false) => (show w41.heap[gb320]? = some (.cells #[.int .i64 0, .int .i64 0] 24 (0, 0)) from by first | exact (blk_below (g := gb320) (o := .cells #[.int .i64 0, .int .i64 0] 24 (0, 0)) (by (with_reducible repeat (first | refine blk_drewN ?_ _ | refine blk_drew ?_ | refine blk_alloc ?_ _)); exact (Q_BK320 h0_ h1_)) hb))
                  clear BK311
                  clear HB
                  have BK311 := n0_
                  have HB := n1_
                  clear n0_ n1_
                  (try clear hb)
                  (try clear hb2)
                  (try clear hk)
                  (try clear hi)
                  refine hK.out _ _ ⟨gb318, gb319, gb320, m6_, m7_, m8_, (by rw [ha.out]; exact putSel_upk 1 hb_ rfl rfl rfl), (by (with_reducible repeat (first | refine blk_drewN ?_ _ | refine blk_drew ?_ | refine blk_alloc ?_ _)); exact BK311.out), (by repeat (first | (with_reducible first | exact HB.out | apply below_alloc | apply pw_below_drewN | apply below_drew1 | refine below_set ?_ GE311.out) | exact HB.out)), Q_NB319_318, Q_NB318_319, Q_NB320_318, Q_NB318_320, Q_NB320_319, Q_NB319_320, z_BK318, Q_GW318, Q_GE318, Q_NB311_318, Q_NB318_311, z_BK319, Q_GW319, Q_GE319, Q_NB311_319, Q_NB319_311, z_BK320, Q_GW320, Q_GE320, Q_NB311_320, Q_NB320_311, fun h0_ => absurd ((hoff 9 (by kernel_rfl)).symm.trans h0_) (by decide), fun h0_ => absurd ((hoff 10 (by kernel_rfl)).symm.trans h0_) (by decide), fun h0_ => absurd ((hoff 11 (by kernel_rfl)).symm.trans h0_) (by decide), Q_X6_, Q_X7_, Q_X8_⟩
                refine steps_cons ?_ ?_
                · rintro b a w' ⟨gb318, gb319, gb320, m6_, m7_, m8_, ha, Q_BK311, Q_HB, Q_NB319_318, Q_NB318_319, Q_NB320_318, Q_NB318_320, Q_NB320_319, Q_NB319_320, Q_BK318, Q_GW318, Q_GE318, Q_NB311_318, Q_NB318_311, Q_BK319, Q_GW319, Q_GE319, Q_NB311_319, Q_NB319_311, Q_BK320, Q_GW320, Q_GE320, Q_NB311_320, Q_NB320_311, Q_BK318_e9, Q_BK319_e10, Q_BK320_e11, Q_X6_, Q_X7_, Q_X8_⟩ hb_ hon hoff
                  refine ⟨_, rfl, fun K hK => ?_⟩
                  have e2 : a.tmps[2]? = some (.pointer (some ⟨gb311, 0, none⟩)) := by rw [ha]; exact (putSel_off rfl).trans rfl
                  replace ha := Aside0.mk ha
                  have BK311 := Aside0.mk Q_BK311
                  have HB := Aside0.mk Q_HB
                  have hc0_ : w'.cell? ⟨gb311, 0, none⟩ = some (.int .i64 a0_0) := (blk_cell BK311.out 0).trans rfl
                  have hc1_ : w'.cell? ⟨gb311, 1, none⟩ = some (.int .i64 a0_1) := (blk_cell BK311.out 1).trans rfl
                  refine value_ (w1 := w') (v := .agg #[.int .i64 a0_0, .int .i64 a0_1]) (by rfl) rfl ?_ ?_
                  · go_simp
                    (try simp only [i64_w])
                    try rfl
                  refine hK.out _ _ ⟨gb318, gb319, gb320, m6_, m7_, m8_, (by rw [ha.out]; exact putSel_upk 2 hb_ rfl rfl rfl), Q_BK311, Q_HB, Q_NB319_318, Q_NB318_319, Q_NB320_318, Q_NB318_320, Q_NB320_319, Q_NB319_320, Q_BK318, Q_GW318, Q_GE318, Q_NB311_318, Q_NB318_311, Q_BK319, Q_GW319, Q_GE319, Q_NB311_319, Q_NB319_311, Q_BK320, Q_GW320, Q_GE320, Q_NB311_320, Q_NB320_311, fun h0_ => absurd ((hoff 9 (by kernel_rfl)).symm.trans h0_) (by decide), fun h0_ => absurd ((hoff 10 (by kernel_rfl)).symm.trans h0_) (by decide), fun h0_ => absurd ((hoff 11 (by kernel_rfl)).symm.trans h0_) (by decide), Q_X6_, Q_X7_, Q_X8_⟩
                refine steps_cons ?_ ?_
                · rintro b a w' ⟨gb318, gb319, gb320, m6_, m7_, m8_, ha, Q_BK311, Q_HB, Q_NB319_318, Q_NB318_319, Q_NB320_318, Q_NB318_320, Q_NB320_319, Q_NB319_320, Q_BK318, Q_GW318, Q_GE318, Q_NB311_318, Q_NB318_311, Q_BK319, Q_GW319, Q_GE319, Q_NB311_319, Q_NB319_311, Q_BK320, Q_GW320, Q_GE320, Q_NB311_320, Q_NB320_311, Q_BK318_e9, Q_BK319_e10, Q_BK320_e11, Q_X6_, Q_X7_, Q_X8_⟩ hb_ hon hoff
                  refine ⟨_, rfl, fun K hK => ?_⟩
                  have e10 : a.tmps[10]? = some (.agg #[.int .i64 a0_0, .int .i64 a0_1]) := by rw [ha]; exact putSel_on (e := (2, 10, .agg #[.int .i64 a0_0, .int .i64 a0_1])) 2 rfl rfl (hon 2 (by kernel_rfl)) rfl
                  replace ha := Aside0.mk ha
                  have BK311 := Aside0.mk Q_BK311
                  have HB := Aside0.mk Q_HB
                  refine goes_ Tryz.func36 (by kernel_rfl) rfl #[.agg #[.int .i64 a0_0, .int .i64 a0_1]] (by rfl) rfl rfl (by first | (simp only [List.map_toArray, List.map_cons, List.map_nil, Act.eval, Array.getD_eq_getD_getElem?, Option.getD_some, e10]; done) | (simp only [List.map_toArray, List.map_cons, List.map_nil, Act.eval, Array.getD_eq_getD_getElem?, Option.getD_some, e10]; rfl)) ?_
                  with_reducible refine (xnum_Ceiling.calls k a0_0 a0_1 t314 t315 _ ?side1 A4.out).mono ?_
                  (case side1 => first | exact HLD | exact Laid.below HLD (by repeat (first | (with_reducible first | exact HB.out | apply below_alloc | apply pw_below_drewN | apply below_drew1 | refine below_set ?_ GE311.out) | exact HB.out)))
                  rintro e w43 ⟨rfl, hb⟩
                  refine ⟨_, rfl, ?_⟩
                  have n0_ := Aside0.mk (blk_below (g := gb311) (o := .cells #[.int .i64 a0_0, .int .i64 a0_1] 24 (0, 0)) (by (with_reducible repeat (first | refine blk_drewN ?_ _ | refine blk_drew ?_ | refine blk_alloc ?_ _)); exact BK311.out) hb)
                  have n1_ := Aside0.mk (below_step (by repeat (first | (with_reducible first | exact HB.out | apply below_alloc | apply pw_below_drewN | apply below_drew1 | refine below_set ?_ GE311.out) | exact HB.out)) hb)
                  have z_BK318 := fun (h0_ : b 6 = true) (h1_ : b 9 = false) => (show w43.heap[gb318]? = some (.cells #[.int .i64 0, .int .i64 0] 24 (0, 0)) from by first | exact (blk_below (g := gb318) (o := .cells #[.int .i64 0, .int .i64 0] 24 (0, 0)) (by (with_reducible repeat (first | refine blk_drewN ?_ _ | refine blk_drew ?_ | refine blk_alloc ?_ _)); exact (Q_BK318 h0_ h1_)) hb))
                  have z_BK319 := fun (h0_ : b 7 = true) (h1_ : b 10 = false) => (show w43.heap[gb319]? = some (.cells #[.int .i64 0, .int .i64 0] 24 (0, 0)) from by first | exact (blk_below (g := gb319) (o := .cells #[.int .i64 0, .int .i64 0] 24 (0, 0)) (by (with_reducible repeat (first | refine blk_drewN ?_ _ | refine blk_drew ?_ | refine blk_alloc ?_ _)); exact (Q_BK319 h0_ h1_)) hb))
                  have z_BK320 := fun (h0_ : b 8 = true) (h1_ : b 11 = false) => (show w43.heap[gb320]? = some (.cells #[.int .i64 0, .int .i64 0] 24 (0, 0)) from by first | exact (blk_below (g := gb320) (o := .cells #[.int .i64 0, .int .i64 0] 24 (0, 0)) (by (with_reducible repeat (first | refine blk_drewN ?_ _ | refine blk_drew ?_ | refine blk_alloc ?_ _)); exact (Q_BK320 h0_ h1_)) hb))
                  clear BK311
                  clear HB
                  have BK311 := n0_
                  have HB := n1_
                  clear n0_ n1_
                  (try clear hb)
                  (try clear hb2)
                  (try clear hk)
                  (try clear hi)
                  refine hK.out _ _ ⟨gb318, gb319, gb320, m6_, m7_, m8_, (by rw [ha.out]; exact putSel_upk 3 hb_ rfl rfl rfl), (by (with_reducible repeat (first | refine blk_drewN ?_ _ | refine blk_drew ?_ | refine blk_alloc ?_ _)); exact BK311.out), (by repeat (first | (with_reducible first | exact HB.out | apply below_alloc | apply pw_below_drewN | apply below_drew1 | refine below_set ?_ GE311.out) | exact HB.out)), Q_NB319_318, Q_NB318_319, Q_NB320_318, Q_NB318_320, Q_NB320_319, Q_NB319_320, z_BK318, Q_GW318, Q_GE318, Q_NB311_318, Q_NB318_311, z_BK319, Q_GW319, Q_GE319, Q_NB311_319, Q_NB319_311, z_BK320, Q_GW320, Q_GE320, Q_NB311_320, Q_NB320_311, fun h0_ => absurd ((hoff 9 (by kernel_rfl)).symm.trans h0_) (by decide), fun h0_ => absurd ((hoff 10 (by kernel_rfl)).symm.trans h0_) (by decide), fun h0_ => absurd ((hoff 11 (by kernel_rfl)).symm.trans h0_) (by decide), Q_X6_, Q_X7_, Q_X8_⟩
                refine steps_cons ?_ ?_
                · rintro b a w' ⟨gb318, gb319, gb320, m6_, m7_, m8_, ha, Q_BK311, Q_HB, Q_NB319_318, Q_NB318_319, Q_NB320_318, Q_NB318_320, Q_NB320_319, Q_NB319_320, Q_BK318, Q_GW318, Q_GE318, Q_NB311_318, Q_NB318_311, Q_BK319, Q_GW319, Q_GE319, Q_NB311_319, Q_NB319_311, Q_BK320, Q_GW320, Q_GE320, Q_NB311_320, Q_NB320_311, Q_BK318_e9, Q_BK319_e10, Q_BK320_e11, Q_X6_, Q_X7_, Q_X8_⟩ hb_ hon hoff
                  refine ⟨_, rfl, fun K hK => ?_⟩
                  have e2 : a.tmps[2]? = some (.pointer (some ⟨gb311, 0, none⟩)) := by rw [ha]; exact (putSel_off rfl).trans rfl
                  replace ha := Aside0.mk ha
                  have BK311 := Aside0.mk Q_BK311
                  have HB := Aside0.mk Q_HB
                  have hc0_ : w'.cell? ⟨gb311, 0, none⟩ = some (.int .i64 a0_0) := (blk_cell BK311.out 0).trans rfl
                  have hc1_ : w'.cell? ⟨gb311, 1, none⟩ = some (.int .i64 a0_1) := (blk_cell BK311.out 1).trans rfl
                  refine value_ (w1 := w') (v := .agg #[.int .i64 a0_0, .int .i64 a0_1]) (by rfl) rfl ?_ ?_
                  · go_simp
                    (try simp only [i64_w])
                    try rfl
                  refine hK.out _ _ ⟨gb318, gb319, gb320, m6_, m7_, m8_, (by rw [ha.out]; exact putSel_upk 4 hb_ rfl rfl rfl), Q_BK311, Q_HB, Q_NB319_318, Q_NB318_319, Q_NB320_318, Q_NB318_320, Q_NB320_319, Q_NB319_320, Q_BK318, Q_GW318, Q_GE318, Q_NB311_318, Q_NB318_311, Q_BK319, Q_GW319, Q_GE319, Q_NB311_319, Q_NB319_311, Q_BK320, Q_GW320, Q_GE320, Q_NB311_320, Q_NB320_311, fun h0_ => absurd ((hoff 9 (by kernel_rfl)).symm.trans h0_) (by decide), fun h0_ => absurd ((hoff 10 (by kernel_rfl)).symm.trans h0_) (by decide), fun h0_ => absurd ((hoff 11 (by kernel_rfl)).symm.trans h0_) (by decide), Q_X6_, Q_X7_, Q_X8_⟩
                refine steps_cons ?_ ?_
                · rintro b a w' ⟨gb318, gb319, gb320, m6_, m7_, m8_, ha, Q_BK311, Q_HB, Q_NB319_318, Q_NB318_319, Q_NB320_318, Q_NB318_320, Q_NB320_319, Q_NB319_320, Q_BK318, Q_GW318, Q_GE318, Q_NB311_318, Q_NB318_311, Q_BK319, Q_GW319, Q_GE319, Q_NB311_319, Q_NB319_311, Q_BK320, Q_GW320, Q_GE320, Q_NB311_320, Q_NB320_311, Q_BK318_e9, Q_BK319_e10, Q_BK320_e11, Q_X6_, Q_X7_, Q_X8_⟩ hb_ hon hoff
                  refine ⟨_, rfl, fun K hK => ?_⟩
                  have e12 : a.tmps[12]? = some (.agg #[.int .i64 a0_0, .int .i64 a0_1]) := by rw [ha]; exact putSel_on (e := (4, 12, .agg #[.int .i64 a0_0, .int .i64 a0_1])) 4 rfl rfl (hon 4 (by kernel_rfl)) rfl
                  replace ha := Aside0.mk ha
                  have BK311 := Aside0.mk Q_BK311
                  have HB := Aside0.mk Q_HB
                  refine goes_ Tryz.func37 (by kernel_rfl) rfl #[.agg #[.int .i64 a0_0, .int .i64 a0_1]] (by rfl) rfl rfl (by first | (simp only [List.map_toArray, List.map_cons, List.map_nil, Act.eval, Array.getD_eq_getD_getElem?, Option.getD_some, e12]; done) | (simp only [List.map_toArray, List.map_cons, List.map_nil, Act.eval, Array.getD_eq_getD_getElem?, Option.getD_some, e12]; rfl)) ?_
                  with_reducible refine (xnum_Round.calls a0_0 a0_1 t316 t317 _ ?side1 A5.out).mono ?_
                  (case side1 => first | exact HLD | exact Laid.below HLD (by repeat (first | (with_reducible first | exact HB.out | apply below_alloc | apply pw_below_drewN | apply below_drew1 | refine below_set ?_ GE311.out) | exact HB.out)))
                  rintro e w44 ⟨rfl, hb⟩
                  refine ⟨_, rfl, ?_⟩
                  have n0_ := Aside0.mk (blk_below (g := gb311) (o := .cells #[.int .i64 a0_0, .int .i64 a0_1] 24 (0, 0)) (by (with_reducible repeat (first | refine blk_drewN ?_ _ | refine blk_drew ?_ | refine blk_alloc ?_ _)); exact BK311.out) hb)
                  have n1_ := Aside0.mk (below_step (by repeat (first | (with_reducible first | exact HB.out | apply below_alloc | apply pw_below_drewN | apply below_drew1 | refine below_set ?_ GE311.out) | exact HB.out)) hb)
                  have z_BK318 := fun (h0_ : b 6 = true) (h1_ : b 9 = false) => (show w44.heap[gb318]? = some (.cells #[.int .i64 0, .int .i64 0] 24 (0, 0)) from by first | exact (blk_below (g := gb318) (o := .cells #[.int .i64 0, .int .i64 0] 24 (0, 0)) (by (with_reducible repeat (first | refine blk_drewN ?_ _ | refine blk_drew ?_ | refine blk_alloc ?_ _)); exact (Q_BK318 h0_ h1_)) hb))
                  have z_BK319 := fun (h0_ : b 7 = true) (h1_ : b 10 = false) => (show w44.heap[gb319]? = some (.cells #[.int .i64 0, .int .i64 0] 24 (0, 0)) from by first | exact (blk_below (g := gb319) (o := .cells #[.int .i64 0, .int .i64 0] 24 (0, 0)) (by (with_reducible repeat (first | refine blk_drewN ?_ _ | refine blk_drew ?_ | refine blk_alloc ?_ _)); exact (Q_BK319 h0_ h1_)) hb))
                  have z_BK320 := fun (h0_ : b 8 = true) (h1_ : b 11 = false) => (show w44.heap[gb320]? = some (.cells #[.int .i64 0, .int .i64 0] 24 (0, 0)) from by first | exact (blk_below (g := gb320) (o := .cells #[.int .i64 0, .int .i64 0] 24 (0, 0)) (by (with_reducible repeat (first | refine blk_drewN ?_ _ | refine blk_drew ?_ | refine blk_alloc ?_ _)); exact (Q_BK320 h0_ h1_)) hb))
                  clear BK311
                  clear HB
                  have BK311 := n0_
                  have HB := n1_
                  clear n0_ n1_
                  (try clear hb)
                  (try clear hb2)
                  (try clear hk)
                  (try clear hi)
                  refine hK.out _ _ ⟨gb318, gb319, gb320, m6_, m7_, m8_, (by rw [ha.out]; exact putSel_upk 5 hb_ rfl rfl rfl), (by (with_reducible repeat (first | refine blk_drewN ?_ _ | refine blk_drew ?_ | refine blk_alloc ?_ _)); exact BK311.out), (by repeat (first | (with_reducible first | exact HB.out | apply below_alloc | apply pw_below_drewN | apply below_drew1 | refine below_set ?_ GE311.out) | exact HB.out)), Q_NB319_318, Q_NB318_319, Q_NB320_318, Q_NB318_320, Q_NB320_319, Q_NB319_320, z_BK318, Q_GW318, Q_GE318, Q_NB311_318, Q_NB318_311, z_BK319, Q_GW319, Q_GE319, Q_NB311_319, Q_NB319_311, z_BK320, Q_GW320, Q_GE320, Q_NB311_320, Q_NB320_311, fun h0_ => absurd ((hoff 9 (by kernel_rfl)).symm.trans h0_) (by decide), fun h0_ => absurd ((hoff 10 (by kernel_rfl)).symm.trans h0_) (by decide), fun h0_ => absurd ((hoff 11 (by kernel_rfl)).symm.trans h0_) (by decide), Q_X6_, Q_X7_, Q_X8_⟩
                refine steps_cons ?_ ?_
                · rintro b a w' ⟨gb318, gb319, gb320, m6_, m7_, m8_, ha, Q_BK311, Q_HB, Q_NB319_318, Q_NB318_319, Q_NB320_318, Q_NB318_320, Q_NB320_319, Q_NB319_320, Q_BK318, Q_GW318, Q_GE318, Q_NB311_318, Q_NB318_311, Q_BK319, Q_GW319, Q_GE319, Q_NB311_319, Q_NB319_311, Q_BK320, Q_GW320, Q_GE320, Q_NB311_320, Q_NB320_311, Q_BK318_e9, Q_BK319_e10, Q_BK320_e11, Q_X6_, Q_X7_, Q_X8_⟩ hb_ hon hoff
                  refine ⟨_, rfl, fun K hK => ?_⟩
                  replace ha := Aside0.mk ha
                  have BK311 := Aside0.mk Q_BK311
                  have HB := Aside0.mk Q_HB
                  refine box_step ?hg (N := 5) ?hd (cs := #[.int .i64 0, .int .i64 0]) (t := 24) ?hr ?_; (case hd => rfl); (case hg => rfl); (case hr => first | (go_simp; done) | (go_simp; rfl))
                  intro gb318 hg w41 hbox hb
                  have n0_ := Aside0.mk (blk_below (g := gb311) (o := .cells #[.int .i64 a0_0, .int .i64 a0_1] 24 (0, 0)) (by (with_reducible repeat (first | refine blk_drewN ?_ _ | refine blk_drew ?_ | refine blk_alloc ?_ _)); exact BK311.out) hb)
                  have n1_ := Aside0.mk (below_step (by repeat (first | (with_reducible first | exact HB.out | apply below_alloc | apply pw_below_drewN | apply below_drew1 | refine below_set ?_ GE311.out) | exact HB.out)) hb)
                  have n2_ := Aside0.mk (hbox)
                  have n3_ := Aside0.mk ((by rw [hg]; exact (below_size (by repeat (first | (with_reducible first | exact HB.out | apply below_alloc | apply pw_below_drewN | apply below_drew1 | refine below_set ?_ GE311.out) | exact HB.out))) : w.heap.size ≤ gb318))
                  have n4_ := Aside0.mk ((by rw [hg]; exact (below_size (by repeat (first | (with_reducible first | exact HB.out | apply below_alloc | apply pw_below_drewN | apply below_drew1 | refine below_set ?_ GE311.out) | exact HB.out))) : w.heap.size ≤ gb318))
                  have n5_ := Aside0.mk ((by rw [hg]; exact Nat.ne_of_lt (blk_lt (g := gb311) (o := .cells #[.int .i64 a0_0, .int .i64 a0_1] 24 (0, 0)) (by (with_reducible repeat (first | refine blk_drewN ?_ _ | refine blk_drew ?_ | refine blk_alloc ?_ _)); exact BK311.out)) : gb311 ≠ gb318))
                  have n6_ := Aside0.mk ((by rw [hg]; exact Nat.ne_of_gt (blk_lt (g := gb311) (o := .cells #[.int .i64 a0_0, .int .i64 a0_1] 24 (0, 0)) (by (with_reducible repeat (first | refine blk_drewN ?_ _ | refine blk_drew ?_ | refine blk_alloc ?_ _)); exact BK311.out)) : gb318 ≠ gb311))
                  have z_NB319_318 := fun (h0_ : up b 6 6 = true) (h1_ : up b 6 7 = true) => (show gb319 ≠ gb318 from ((by rw [hg]; exact Nat.ne_of_lt (blk_lt (g := gb319) (o := .cells #[.int .i64 0, .int .i64 0] 24 (0, 0)) (by (with_reducible repeat (first | refine blk_drewN ?_ _ | refine blk_drew ?_ | refine blk_alloc ?_ _)); exact (Q_BK319 (show b 7 = true from h1_) (hoff 10 (by kernel_rfl))))) : gb319 ≠ gb318)))
                  have z_NB318_319 := fun (h0_ : up b 6 6 = true) (h1_ : up b 6 7 = true) => (show gb318 ≠ gb319 from ((by rw [hg]; exact Nat.ne_of_gt (blk_lt (g := gb319) (o := .cells #[.int .i64 0, .int .i64 0] 24 (0, 0)) (by (with_reducible repeat (first | refine blk_drewN ?_ _ | refine blk_drew ?_ | refine blk_alloc ?_ _)); exact (Q_BK319 (show b 7 = true from h1_) (hoff 10 (by kernel_rfl))))) : gb318 ≠ gb319)))
                  have z_NB320_318 := fun (h0_ : up b 6 6 = true) (h1_ : up b 6 8 = true) => (show gb320 ≠ gb318 from ((by rw [hg]; exact Nat.ne_of_lt (blk_lt (g := gb320) (o := .cells #[.int .i64 0, .int .i64 0] 24 (0, 0)) (by (with_reducible repeat (first | refine blk_drewN ?_ _ | refine blk_drew ?_ | refine blk_alloc ?_ _)); exact (Q_BK320 (show b 8 = true from h1_) (hoff 11 (by kernel_rfl))))) : gb320 ≠ gb318)))
                  have z_NB318_320 := fun (h0_ : up b 6 6 = true) (h1_ : up b 6 8 = true) => (show gb318 ≠ gb320 from ((by rw [hg]; exact Nat.ne_of_gt (blk_lt (g := gb320) (o := .cells #[.int .i64 0, .int .i64 0] 24 (0, 0)) (by (with_reducible repeat (first | refine blk_drewN ?_ _ | refine blk_drew ?_ | refine blk_alloc ?_ _)); exact (Q_BK320 (show b 8 = true from h1_) (hoff 11 (by kernel_rfl))))) : gb318 ≠ gb320)))
                  have z_BK319 := fun (h0_ : b 7 = true) (h1_ : b 10 = false) => (show w41.heap[gb319]? = some (.cells #[.int .i64 0, .int .i64 0] 24 (0, 0)) from by first | exact (blk_below (g := gb319) (o := .cells #[.int .i64 0, .int .i64 0] 24 (0, 0)) (by (with_reducible repeat (first | refine blk_drewN ?_ _ | refine blk_drew ?_ | refine blk_alloc ?_ _)); exact (Q_BK319 h0_ h1_)) hb))
                  have z_BK320 := fun (h0_ : b 8 = true) (h1_ : b 11 = false) => (show w41.heap[gb320]? = some (.cells #[.int .i64 0, .int .i64 0] 24 (0, 0)) from by first | exact (blk_below (g := gb320) (o := .cells #[.int .i64 0, .int .i64 0] 24 (0, 0)) (by (with_reducible repeat (first | refine blk_drewN ?_ _ | refine blk_drew ?_ | refine blk_alloc ?_ _)); exact (Q_BK320 h0_ h1_)) hb))
                  clear BK311
                  clear HB
                  have BK311 := n0_
                  have HB := n1_
                  have BK318 := n2_
                  have GW318 := n3_
                  have GE318 := n4_
                  have NB311_318 := n5_
                  have NB318_311 := n6_
                  clear n0_ n1_ n2_ n3_ n4_ n5_ n6_
                  clear hb hbox hg
                  refine hK.out _ _ ⟨gb318, gb319, gb320, (.pointer (some ⟨gb318, 0, none⟩)), m7_, m8_, (by rw [ha.out]; exact putSel_upk 6 hb_ rfl rfl rfl), (by (with_reducible repeat (first | refine blk_drewN ?_ _ | refine blk_drew ?_ | refine blk_alloc ?_ _)); exact BK311.out), (by repeat (first | (with_reducible first | exact HB.out | apply below_alloc | apply pw_below_drewN | apply below_drew1 | refine below_set ?_ GE311.out | refine below_set ?_ GE318.out) | exact HB.out)), @z_NB319_318, @z_NB318_319, @z_NB320_318, @z_NB318_320, Q_NB320_319, Q_NB319_320, fun _ _ => (by (with_reducible repeat (first | refine blk_drewN ?_ _ | refine blk_drew ?_ | refine blk_alloc ?_ _)); exact BK318.out), fun _ => GW318.out, fun _ => GE318.out, fun _ => NB311_318.out, fun _ => NB318_311.out, z_BK319, Q_GW319, Q_GE319, Q_NB311_319, Q_NB319_311, z_BK320, Q_GW320, Q_GE320, Q_NB311_320, Q_NB320_311, fun h0_ => absurd ((hoff 9 (by kernel_rfl)).symm.trans h0_) (by decide), fun h0_ => absurd ((hoff 10 (by kernel_rfl)).symm.trans h0_) (by decide), fun h0_ => absurd ((hoff 11 (by kernel_rfl)).symm.trans h0_) (by decide), fun _ => rfl, Q_X7_, Q_X8_⟩
                refine steps_cons ?_ ?_
                · rintro b a w' ⟨gb318, gb319, gb320, m6_, m7_, m8_, ha, Q_BK311, Q_HB, Q_NB319_318, Q_NB318_319, Q_NB320_318, Q_NB318_320, Q_NB320_319, Q_NB319_320, Q_BK318, Q_GW318, Q_GE318, Q_NB311_318, Q_NB318_311, Q_BK319, Q_GW319, Q_GE319, Q_NB311_319, Q_NB319_311, Q_BK320, Q_GW320, Q_GE320, Q_NB311_320, Q_NB320_311, Q_BK318_e9, Q_BK319_e10, Q_BK320_e11, Q_X6_, Q_X7_, Q_X8_⟩ hb_ hon hoff
                  refine ⟨_, rfl, fun K hK => ?_⟩
                  replace ha := Aside0.mk ha
                  have BK311 := Aside0.mk Q_BK311
                  have HB := Aside0.mk Q_HB
                  refine box_step ?hg (N := 6) ?hd (cs := #[.int .i64 0, .int .i64 0]) (t := 24) ?hr ?_; (case hd => rfl); (case hg => rfl); (case hr => first | (go_simp; done) | (go_simp; rfl))
                  intro gb319 hg w41 hbox hb
                  have n0_ := Aside0.mk (blk_below (g := gb311) (o := .cells #[.int .i64 a0_0, .int .i64 a0_1] 24 (0, 0)) (by (with_reducible repeat (first | refine blk_drewN ?_ _ | refine blk_drew ?_ | refine blk_alloc ?_ _)); exact BK311.out) hb)
                  have n1_ := Aside0.mk (below_step (by repeat (first | (with_reducible first | exact HB.out | apply below_alloc | apply pw_below_drewN | apply below_drew1 | refine below_set ?_ GE311.out) | exact HB.out)) hb)
                  have n2_ := Aside0.mk (hbox)
                  have n3_ := Aside0.mk ((by rw [hg]; exact (below_size (by repeat (first | (with_reducible first | exact HB.out | apply below_alloc | apply pw_below_drewN | apply below_drew1 | refine below_set ?_ GE311.out) | exact HB.out))) : w.heap.size ≤ gb319))
                  have n4_ := Aside0.mk ((by rw [hg]; exact (below_size (by repeat (first | (with_reducible first | exact HB.out | apply below_alloc | apply pw_below_drewN | apply below_drew1 | refine below_set ?_ GE311.out) | exact HB.out))) : w.heap.size ≤ gb319))
                  have n5_ := Aside0.mk ((by rw [hg]; exact Nat.ne_of_lt (blk_lt (g := gb311) (o := .cells #[.int .i64 a0_0, .int .i64 a0_1] 24 (0, 0)) (by (with_reducible repeat (first | refine blk_drewN ?_ _ | refine blk_drew ?_ | refine blk_alloc ?_ _)); exact BK311.out)) : gb311 ≠ gb319))
                  have n6_ := Aside0.mk ((by rw [hg]; exact Nat.ne_of_gt (blk_lt (g := gb311) (o := .cells #[.int .i64 a0_0, .int .i64 a0_1] 24 (0, 0)) (by (with_reducible repeat (first | refine blk_drewN ?_ _ | refine blk_drew ?_ | refine blk_alloc ?_ _)); exact BK311.out)) : gb319 ≠ gb311))
                  have z_NB319_318 := fun (h0_ : up b 7 6 = true) (h1_ : up b 7 7 = true) => (show gb319 ≠ gb318 from ((by rw [hg]; exact Nat.ne_of_gt (blk_lt (g := gb318) (o := .cells #[.int .i64 0, .int .i64 0] 24 (0, 0)) (by (with_reducible repeat (first | refine blk_drewN ?_ _ | refine blk_drew ?_ | refine blk_alloc ?_ _)); exact (Q_BK318 (show b 6 = true from h0_) (hoff 9 (by kernel_rfl))))) : gb319 ≠ gb318)))
                  have z_NB318_319 := fun (h0_ : up b 7 6 = true) (h1_ : up b 7 7 = true) => (show gb318 ≠ gb319 from ((by rw [hg]; exact Nat.ne_of_lt (blk_lt (g := gb318) (o := .cells #[.int .i64 0, .int .i64 0] 24 (0, 0)) (by (with_reducible repeat (first | refine blk_drewN ?_ _ | refine blk_drew ?_ | refine blk_alloc ?_ _)); exact (Q_BK318 (show b 6 = true from h0_) (hoff 9 (by kernel_rfl))))) : gb318 ≠ gb319)))
                  have z_NB320_319 := fun (h0_ : up b 7 7 = true) (h1_ : up b 7 8 = true) => (show gb320 ≠ gb319 from ((by rw [hg]; exact Nat.ne_of_lt (blk_lt (g := gb320) (o := .cells #[.int .i64 0, .int .i64 0] 24 (0, 0)) (by (with_reducible repeat (first | refine blk_drewN ?_ _ | refine blk_drew ?_ | refine blk_alloc ?_ _)); exact (Q_BK320 (show b 8 = true from h1_) (hoff 11 (by kernel_rfl))))) : gb320 ≠ gb319)))
                  have z_NB319_320 := fun (h0_ : up b 7 7 = true) (h1_ : up b 7 8 = true) => (show gb319 ≠ gb320 from ((by rw [hg]; exact Nat.ne_of_gt (blk_lt (g := gb320) (o := .cells #[.int .i64 0, .int .i64 0] 24 (0, 0)) (by (with_reducible repeat (first | refine blk_drewN ?_ _ | refine blk_drew ?_ | refine blk_alloc ?_ _)); exact (Q_BK320 (show b 8 = true from h1_) (hoff 11 (by kernel_rfl))))) : gb319 ≠ gb320)))
                  have z_BK318 := fun (h0_ : b 6 = true) (h1_ : b 9 = false) => (show w41.heap[gb318]? = some (.cells #[.int .i64 0, .int .i64 0] 24 (0, 0)) from by first | exact (blk_below (g := gb318) (o := .cells #[.int .i64 0, .int .i64 0] 24 (0, 0)) (by (with_reducible repeat (first | refine blk_drewN ?_ _ | refine blk_drew ?_ | refine blk_alloc ?_ _)); exact (Q_BK318 h0_ h1_)) hb))
                  have z_BK320 := fun (h0_ : b 8 = true) (h1_ : b 11 = false) => (show w41.heap[gb320]? = some (.cells #[.int .i64 0, .int .i64 0] 24 (0, 0)) from by first | exact (blk_below (g := gb320) (o := .cells #[.int .i64 0, .int .i64 0] 24 (0, 0)) (by (with_reducible repeat (first | refine blk_drewN ?_ _ | refine blk_drew ?_ | refine blk_alloc ?_ _)); exact (Q_BK320 h0_ h1_)) hb))
                  clear BK311
                  clear HB
                  have BK311 := n0_
                  have HB := n1_
                  have BK319 := n2_
                  have GW319 := n3_
                  have GE319 := n4_
                  have NB311_319 := n5_
                  have NB319_311 := n6_
                  clear n0_ n1_ n2_ n3_ n4_ n5_ n6_
                  clear hb hbox hg
                  refine hK.out _ _ ⟨gb318, gb319, gb320, m6_, (.pointer (some ⟨gb319, 0, none⟩)), m8_, (by rw [ha.out]; exact putSel_upk 7 hb_ rfl rfl rfl), (by (with_reducible repeat (first | refine blk_drewN ?_ _ | refine blk_drew ?_ | refine blk_alloc ?_ _)); exact BK311.out), (by repeat (first | (with_reducible first | exact HB.out | apply below_alloc | apply pw_below_drewN | apply below_drew1 | refine below_set ?_ GE311.out | refine below_set ?_ GE319.out) | exact HB.out)), @z_NB319_318, @z_NB318_319, Q_NB320_318, Q_NB318_320, @z_NB320_319, @z_NB319_320, z_BK318, Q_GW318, Q_GE318, Q_NB311_318, Q_NB318_311, fun _ _ => (by (with_reducible repeat (first | refine blk_drewN ?_ _ | refine blk_drew ?_ | refine blk_alloc ?_ _)); exact BK319.out), fun _ => GW319.out, fun _ => GE319.out, fun _ => NB311_319.out, fun _ => NB319_311.out, z_BK320, Q_GW320, Q_GE320, Q_NB311_320, Q_NB320_311, fun h0_ => absurd ((hoff 9 (by kernel_rfl)).symm.trans h0_) (by decide), fun h0_ => absurd ((hoff 10 (by kernel_rfl)).symm.trans h0_) (by decide), fun h0_ => absurd ((hoff 11 (by kernel_rfl)).symm.trans h0_) (by decide), Q_X6_, fun _ => rfl, Q_X8_⟩
                refine steps_cons ?_ ?_
                · rintro b a w' ⟨gb318, gb319, gb320, m6_, m7_, m8_, ha, Q_BK311, Q_HB, Q_NB319_318, Q_NB318_319, Q_NB320_318, Q_NB318_320, Q_NB320_319, Q_NB319_320, Q_BK318, Q_GW318, Q_GE318, Q_NB311_318, Q_NB318_311, Q_BK319, Q_GW319, Q_GE319, Q_NB311_319, Q_NB319_311, Q_BK320, Q_GW320, Q_GE320, Q_NB311_320, Q_NB320_311, Q_BK318_e9, Q_BK319_e10, Q_BK320_e11, Q_X6_, Q_X7_, Q_X8_⟩ hb_ hon hoff
                  refine ⟨_, rfl, fun K hK => ?_⟩
                  replace ha := Aside0.mk ha
                  have BK311 := Aside0.mk Q_BK311
                  have HB := Aside0.mk Q_HB
                  refine box_step ?hg (N := 7) ?hd (cs := #[.int .i64 0, .int .i64 0]) (t := 24) ?hr ?_; (case hd => rfl); (case hg => rfl); (case hr => first | (go_simp; done) | (go_simp; rfl))
                  intro gb320 hg w41 hbox hb
                  have n0_ := Aside0.mk (blk_below (g := gb311) (o := .cells #[.int .i64 a0_0, .int .i64 a0_1] 24 (0, 0)) (by (with_reducible repeat (first | refine blk_drewN ?_ _ | refine blk_drew ?_ | refine blk_alloc ?_ _)); exact BK311.out) hb)
                  have n1_ := Aside0.mk (below_step (by repeat (first | (with_reducible first | exact HB.out | apply below_alloc | apply pw_below_drewN | apply below_drew1 | refine below_set ?_ GE311.out) | exact HB.out)) hb)
                  have n2_ := Aside0.mk (hbox)
                  have n3_ := Aside0.mk ((by rw [hg]; exact (below_size (by repeat (first | (with_reducible first | exact HB.out | apply below_alloc | apply pw_below_drewN | apply below_drew1 | refine below_set ?_ GE311.out) | exact HB.out))) : w.heap.size ≤ gb320))
                  have n4_ := Aside0.mk ((by rw [hg]; exact (below_size (by repeat (first | (with_reducible first | exact HB.out | apply below_alloc | apply pw_below_drewN | apply below_drew1 | refine below_set ?_ GE311.out) | exact HB.out))) : w.heap.size ≤ gb320))
                  have n5_ := Aside0.mk ((by rw [hg]; exact Nat.ne_of_lt (blk_lt (g := gb311) (o := .cells #[.int .i64 a0_0, .int .i64 a0_1] 24 (0, 0)) (by (with_reducible repeat (first | refine blk_drewN ?_ _ | refine blk_drew ?_ | refine blk_alloc ?_ _)); exact BK311.out)) : gb311 ≠ gb320))
                  have n6_ := Aside0.mk ((by rw [hg]; exact Nat.ne_of_gt (blk_lt (g := gb311) (o := .cells #[.int .i64 a0_0, .int .i64 a0_1] 24 (0, 0)) (by (with_reducible repeat (first | refine blk_drewN ?_ _ | refine blk_drew ?_ | refine blk_alloc ?_ _)); exact BK311.out)) : gb320 ≠ gb311))
                  have z_NB320_318 := fun (h0_ : up b 8 6 = true) (h1_ : up b 8 8 = true) => (show gb320 ≠ gb318 from ((by rw [hg]; exact Nat.ne_of_gt (blk_lt (g := gb318) (o := .cells #[.int .i64 0, .int .i64 0] 24 (0, 0)) (by (with_reducible repeat (first | refine blk_drewN ?_ _ | refine blk_drew ?_ | refine blk_alloc ?_ _)); exact (Q_BK318 (show b 6 = true from h0_) (hoff 9 (by kernel_rfl))))) : gb320 ≠ gb318)))
                  have z_NB318_320 := fun (h0_ : up b 8 6 = true) (h1_ : up b 8 8 = true) => (show gb318 ≠ gb320 from ((by rw [hg]; exact Nat.ne_of_lt (blk_lt (g := gb318) (o := .cells #[.int .i64 0, .int .i64 0] 24 (0, 0)) (by (with_reducible repeat (first | refine blk_drewN ?_ _ | refine blk_drew ?_ | refine blk_alloc ?_ _)); exact (Q_BK318 (show b 6 = true from h0_) (hoff 9 (by kernel_rfl))))) : gb318 ≠ gb320)))
                  have z_NB320_319 := fun (h0_ : up b 8 7 = true) (h1_ : up b 8 8 = true) => (show gb320 ≠ gb319 from ((by rw [hg]; exact Nat.ne_of_gt (blk_lt (g := gb319) (o := .cells #[.int .i64 0, .int .i64 0] 24 (0, 0)) (by (with_reducible repeat (first | refine blk_drewN ?_ _ | refine blk_drew ?_ | refine blk_alloc ?_ _)); exact (Q_BK319 (show b 7 = true from h0_) (hoff 10 (by kernel_rfl))))) : gb320 ≠ gb319)))
                  have z_NB319_320 := fun (h0_ : up b 8 7 = true) (h1_ : up b 8 8 = true) => (show gb319 ≠ gb320 from ((by rw [hg]; exact Nat.ne_of_lt (blk_lt (g := gb319) (o := .cells #[.int .i64 0, .int .i64 0] 24 (0, 0)) (by (with_reducible repeat (first | refine blk_drewN ?_ _ | refine blk_drew ?_ | refine blk_alloc ?_ _)); exact (Q_BK319 (show b 7 = true from h0_) (hoff 10 (by kernel_rfl))))) : gb319 ≠ gb320)))
                  have z_BK318 := fun (h0_ : b 6 = true) (h1_ : b 9 = false) => (show w41.heap[gb318]? = some (.cells #[.int .i64 0, .int .i64 0] 24 (0, 0)) from by first | exact (blk_below (g := gb318) (o := .cells #[.int .i64 0, .int .i64 0] 24 (0, 0)) (by (with_reducible repeat (first | refine blk_drewN ?_ _ | refine blk_drew ?_ | refine blk_alloc ?_ _)); exact (Q_BK318 h0_ h1_)) hb))
                  have z_BK319 := fun (h0_ : b 7 = true) (h1_ : b 10 = false) => (show w41.heap[gb319]? = some (.cells #[.int .i64 0, .int .i64 0] 24 (0, 0)) from by first | exact (blk_below (g := gb319) (o := .cells #[.int .i64 0, .int .i64 0] 24 (0, 0)) (by (with_reducible repeat (first | refine blk_drewN ?_ _ | refine blk_drew ?_ | refine blk_alloc ?_ _)); exact (Q_BK319 h0_ h1_)) hb))
                  clear BK311
                  clear HB
                  have BK311 := n0_
                  have HB := n1_
                  have BK320 := n2_
                  have GW320 := n3_
                  have GE320 := n4_
                  have NB311_320 := n5_
                  have NB320_311 := n6_
                  clear n0_ n1_ n2_ n3_ n4_ n5_ n6_
                  clear hb hbox hg
                  refine hK.out _ _ ⟨gb318, gb319, gb320, m6_, m7_, (.pointer (some ⟨gb320, 0, none⟩)), (by rw [ha.out]; exact putSel_upk 8 hb_ rfl rfl rfl), (by (with_reducible repeat (first | refine blk_drewN ?_ _ | refine blk_drew ?_ | refine blk_alloc ?_ _)); exact BK311.out), (by repeat (first | (with_reducible first | exact HB.out | apply below_alloc | apply pw_below_drewN | apply below_drew1 | refine below_set ?_ GE311.out | refine below_set ?_ GE320.out) | exact HB.out)), Q_NB319_318, Q_NB318_319, @z_NB320_318, @z_NB318_320, @z_NB320_319, @z_NB319_320, z_BK318, Q_GW318, Q_GE318, Q_NB311_318, Q_NB318_311, z_BK319, Q_GW319, Q_GE319, Q_NB311_319, Q_NB319_311, fun _ _ => (by (with_reducible repeat (first | refine blk_drewN ?_ _ | refine blk_drew ?_ | refine blk_alloc ?_ _)); exact BK320.out), fun _ => GW320.out, fun _ => GE320.out, fun _ => NB311_320.out, fun _ => NB320_311.out, fun h0_ => absurd ((hoff 9 (by kernel_rfl)).symm.trans h0_) (by decide), fun h0_ => absurd ((hoff 10 (by kernel_rfl)).symm.trans h0_) (by decide), fun h0_ => absurd ((hoff 11 (by kernel_rfl)).symm.trans h0_) (by decide), Q_X6_, Q_X7_, fun _ => rfl⟩
                refine steps_cons ?_ ?_
                · rintro b a w' ⟨gb318, gb319, gb320, m6_, m7_, m8_, ha, Q_BK311, Q_HB, Q_NB319_318, Q_NB318_319, Q_NB320_318, Q_NB318_320, Q_NB320_319, Q_NB319_320, Q_BK318, Q_GW318, Q_GE318, Q_NB311_318, Q_NB318_311, Q_BK319, Q_GW319, Q_GE319, Q_NB311_319, Q_NB319_311, Q_BK320, Q_GW320, Q_GE320, Q_NB311_320, Q_NB320_311, Q_BK318_e9, Q_BK319_e10, Q_BK320_e11, Q_X6_, Q_X7_, Q_X8_⟩ hb_ hon hoff
                  refine ⟨_, rfl, fun K hK => ?_⟩
                  have e5 : a.tmps[5]? = some (m6_) := by rw [ha]; exact putSel_on (e := (6, 5, m6_)) 6 rfl rfl (hon 6 (by kernel_rfl)) rfl
                  rw [Q_X6_ (hon 6 (by kernel_rfl))] at e5
                  have e9 : a.tmps[9]? = some (.agg #[.int .i64 t312, .int .i64 t313]) := by rw [ha]; exact putSel_on (e := (1, 9, .agg #[.int .i64 t312, .int .i64 t313])) 1 rfl rfl (hon 1 (by kernel_rfl)) rfl
                  replace ha := Aside0.mk ha
                  have BK311 := Aside0.mk Q_BK311
                  have HB := Aside0.mk Q_HB
                  have NB319_318 := Aside0.mk (Q_NB319_318 (hon 6 (by kernel_rfl)) (hon 7 (by kernel_rfl)))
                  have NB318_319 := Aside0.mk (Q_NB318_319 (hon 6 (by kernel_rfl)) (hon 7 (by kernel_rfl)))
                  have NB320_318 := Aside0.mk (Q_NB320_318 (hon 6 (by kernel_rfl)) (hon 8 (by kernel_rfl)))
                  have NB318_320 := Aside0.mk (Q_NB318_320 (hon 6 (by kernel_rfl)) (hon 8 (by kernel_rfl)))
                  have NB320_319 := Aside0.mk (Q_NB320_319 (hon 7 (by kernel_rfl)) (hon 8 (by kernel_rfl)))
                  have NB319_320 := Aside0.mk (Q_NB319_320 (hon 7 (by kernel_rfl)) (hon 8 (by kernel_rfl)))
                  have BK318 := Aside0.mk (Q_BK318 (hon 6 (by kernel_rfl)) hb_)
                  have GW318 := Aside0.mk (Q_GW318 (hon 6 (by kernel_rfl)))
                  have GE318 := Aside0.mk (Q_GE318 (hon 6 (by kernel_rfl)))
                  have NB311_318 := Aside0.mk (Q_NB311_318 (hon 6 (by kernel_rfl)))
                  have NB318_311 := Aside0.mk (Q_NB318_311 (hon 6 (by kernel_rfl)))
                  have BK319 := Aside0.mk (Q_BK319 (hon 7 (by kernel_rfl)) (hoff 10 (by kernel_rfl)))
                  have GW319 := Aside0.mk (Q_GW319 (hon 7 (by kernel_rfl)))
                  have GE319 := Aside0.mk (Q_GE319 (hon 7 (by kernel_rfl)))
                  have NB311_319 := Aside0.mk (Q_NB311_319 (hon 7 (by kernel_rfl)))
                  have NB319_311 := Aside0.mk (Q_NB319_311 (hon 7 (by kernel_rfl)))
                  have BK320 := Aside0.mk (Q_BK320 (hon 8 (by kernel_rfl)) (hoff 11 (by kernel_rfl)))
                  have GW320 := Aside0.mk (Q_GW320 (hon 8 (by kernel_rfl)))
                  have GE320 := Aside0.mk (Q_GE320 (hon 8 (by kernel_rfl)))
                  have NB311_320 := Aside0.mk (Q_NB311_320 (hon 8 (by kernel_rfl)))
                  have NB320_311 := Aside0.mk (Q_NB320_311 (hon 8 (by kernel_rfl)))
                  have hs48 : w'.cell? ⟨gb318, 0, none⟩ = some (.int .i64 0) := (blk_cell BK318.out 0).trans rfl
                  have hfs48 := blk_frozen BK318.out 0
                  have hns48_0 := NB311_318.out
                  have hns48_2 := NB319_318.out
                  have hns48_3 := NB320_318.out
                  have hms48_0 := NB318_311.out
                  have hms48_2 := NB318_319.out
                  have hms48_3 := NB318_320.out
                  have hs49 : w'.cell? ⟨gb318, 1, none⟩ = some (.int .i64 0) := (blk_cell BK318.out 1).trans rfl
                  have hfs49 := blk_frozen BK318.out 1
                  have hns49_0 := NB311_318.out
                  have hns49_2 := NB319_318.out
                  have hns49_3 := NB320_318.out
                  have hms49_0 := NB318_311.out
                  have hms49_2 := NB318_319.out
                  have hms49_3 := NB318_320.out
                  refine skip_ (w1 := ?_) (by rfl) rfl ?_ ?_
                  rotate_left
                  · go_simp
                    rfl
                  refine hK.out _ _ ⟨gb318, gb319, gb320, m6_, m7_, m8_, (by rw [ha.out]; exact putSel_none (v := undef) rfl), (by (with_reducible repeat (first | refine blk_drewN ?_ _ | refine blk_drew ?_ | refine blk_alloc ?_ _)); refine blk_far ?_ NB311_318.out _; (with_reducible repeat (first | refine blk_drewN ?_ _ | refine blk_drew ?_ | refine blk_alloc ?_ _)); refine blk_far ?_ NB311_318.out _; (with_reducible repeat (first | refine blk_drewN ?_ _ | refine blk_drew ?_ | refine blk_alloc ?_ _)); exact BK311.out), (by repeat (first | (with_reducible first | exact HB.out | apply below_alloc | apply pw_below_drewN | apply below_drew1 | refine below_set ?_ GE311.out | refine below_set ?_ GE318.out | refine below_set ?_ GE319.out | refine below_set ?_ GE320.out) | exact HB.out)), fun _ _ => NB319_318.out, fun _ _ => NB318_319.out, fun _ _ => NB320_318.out, fun _ _ => NB318_320.out, fun _ _ => NB320_319.out, fun _ _ => NB319_320.out, fun _ h1_ => absurd ((up_self b 9).symm.trans h1_) (by decide), fun _ => GW318.out, fun _ => GE318.out, fun _ => NB311_318.out, fun _ => NB318_311.out, fun _ _ => (by (with_reducible repeat (first | refine blk_drewN ?_ _ | refine blk_drew ?_ | refine blk_alloc ?_ _)); refine blk_far ?_ NB319_318.out _; (with_reducible repeat (first | refine blk_drewN ?_ _ | refine blk_drew ?_ | refine blk_alloc ?_ _)); refine blk_far ?_ NB319_318.out _; (with_reducible repeat (first | refine blk_drewN ?_ _ | refine blk_drew ?_ | refine blk_alloc ?_ _)); exact BK319.out), fun _ => GW319.out, fun _ => GE319.out, fun _ => NB311_319.out, fun _ => NB319_311.out, fun _ _ => (by (with_reducible repeat (first | refine blk_drewN ?_ _ | refine blk_drew ?_ | refine blk_alloc ?_ _)); refine blk_far ?_ NB320_318.out _; (with_reducible repeat (first | refine blk_drewN ?_ _ | refine blk_drew ?_ | refine blk_alloc ?_ _)); refine blk_far ?_ NB320_318.out _; (with_reducible repeat (first | refine blk_drewN ?_ _ | refine blk_drew ?_ | refine blk_alloc ?_ _)); exact BK320.out), fun _ => GW320.out, fun _ => GE320.out, fun _ => NB311_320.out, fun _ => NB320_311.out, fun _ => (by (with_reducible repeat (first | refine blk_drewN ?_ _ | refine blk_drew ?_ | refine blk_alloc ?_ _)); refine blk_put (cs := #[.int .i64 t312, .int .i64 0]) ?_ 1 _ rfl; (with_reducible repeat (first | refine blk_drewN ?_ _ | refine blk_drew ?_ | refine blk_alloc ?_ _)); refine blk_put (cs := #[.int .i64 0, .int .i64 0]) ?_ 0 _ rfl; (with_reducible repeat (first | refine blk_drewN ?_ _ | refine blk_drew ?_ | refine blk_alloc ?_ _)); exact BK318.out), fun h0_ => absurd ((hoff 10 (by kernel_rfl)).symm.trans h0_) (by decide), fun h0_ => absurd ((hoff 11 (by kernel_rfl)).symm.trans h0_) (by decide), Q_X6_, Q_X7_, Q_X8_⟩
                refine steps_cons ?_ ?_
                · rintro b a w' ⟨gb318, gb319, gb320, m6_, m7_, m8_, ha, Q_BK311, Q_HB, Q_NB319_318, Q_NB318_319, Q_NB320_318, Q_NB318_320, Q_NB320_319, Q_NB319_320, Q_BK318, Q_GW318, Q_GE318, Q_NB311_318, Q_NB318_311, Q_BK319, Q_GW319, Q_GE319, Q_NB311_319, Q_NB319_311, Q_BK320, Q_GW320, Q_GE320, Q_NB311_320, Q_NB320_311, Q_BK318_e9, Q_BK319_e10, Q_BK320_e11, Q_X6_, Q_X7_, Q_X8_⟩ hb_ hon hoff
                  refine ⟨_, rfl, fun K hK => ?_⟩
                  have e6 : a.tmps[6]? = some (m7_) := by rw [ha]; exact putSel_on (e := (7, 6, m7_)) 7 rfl rfl (hon 7 (by kernel_rfl)) rfl
                  rw [Q_X7_ (hon 7 (by kernel_rfl))] at e6
                  have e11 : a.tmps[11]? = some (.agg #[.int .i64 t314, .int .i64 t315]) := by rw [ha]; exact putSel_on (e := (3, 11, .agg #[.int .i64 t314, .int .i64 t315])) 3 rfl rfl (hon 3 (by kernel_rfl)) rfl
                  replace ha := Aside0.mk ha
                  have BK311 := Aside0.mk Q_BK311
                  have HB := Aside0.mk Q_HB
                  have NB319_318 := Aside0.mk (Q_NB319_318 (hon 6 (by kernel_rfl)) (hon 7 (by kernel_rfl)))
                  have NB318_319 := Aside0.mk (Q_NB318_319 (hon 6 (by kernel_rfl)) (hon 7 (by kernel_rfl)))
                  have NB320_318 := Aside0.mk (Q_NB320_318 (hon 6 (by kernel_rfl)) (hon 8 (by kernel_rfl)))
                  have NB318_320 := Aside0.mk (Q_NB318_320 (hon 6 (by kernel_rfl)) (hon 8 (by kernel_rfl)))
                  have NB320_319 := Aside0.mk (Q_NB320_319 (hon 7 (by kernel_rfl)) (hon 8 (by kernel_rfl)))
                  have NB319_320 := Aside0.mk (Q_NB319_320 (hon 7 (by kernel_rfl)) (hon 8 (by kernel_rfl)))
                  have GW318 := Aside0.mk (Q_GW318 (hon 6 (by kernel_rfl)))
                  have GE318 := Aside0.mk (Q_GE318 (hon 6 (by kernel_rfl)))
                  have NB311_318 := Aside0.mk (Q_NB311_318 (hon 6 (by kernel_rfl)))
                  have NB318_311 := Aside0.mk (Q_NB318_311 (hon 6 (by kernel_rfl)))
                  have BK319 := Aside0.mk (Q_BK319 (hon 7 (by kernel_rfl)) hb_)
                  have GW319 := Aside0.mk (Q_GW319 (hon 7 (by kernel_rfl)))
                  have GE319 := Aside0.mk (Q_GE319 (hon 7 (by kernel_rfl)))
                  have NB311_319 := Aside0.mk (Q_NB311_319 (hon 7 (by kernel_rfl)))
                  have NB319_311 := Aside0.mk (Q_NB319_311 (hon 7 (by kernel_rfl)))
                  have BK320 := Aside0.mk (Q_BK320 (hon 8 (by kernel_rfl)) (hoff 11 (by kernel_rfl)))
                  have GW320 := Aside0.mk (Q_GW320 (hon 8 (by kernel_rfl)))
                  have GE320 := Aside0.mk (Q_GE320 (hon 8 (by kernel_rfl)))
                  have NB311_320 := Aside0.mk (Q_NB311_320 (hon 8 (by kernel_rfl)))
                  have NB320_311 := Aside0.mk (Q_NB320_311 (hon 8 (by kernel_rfl)))
                  have BK318 := Aside0.mk (Q_BK318_e9 (hon 9 (by kernel_rfl)))
                  have hs50 : w'.cell? ⟨gb319, 0, none⟩ = some (.int .i64 0) := (blk_cell BK319.out 0).trans rfl
                  have hfs50 := blk_frozen BK319.out 0
                  have hns50_0 := NB311_319.out
                  have hns50_1 := NB318_319.out
                  have hns50_3 := NB320_319.out
                  have hms50_0 := NB319_311.out
                  have hms50_1 := NB319_318.out
                  have hms50_3 := NB319_320.out
                  have hs51 : w'.cell? ⟨gb319, 1, none⟩ = some (.int .i64 0) := (blk_cell BK319.out 1).trans rfl
                  have hfs51 := blk_frozen BK319.out 1
                  have hns51_0 := NB311_319.out
                  have hns51_1 := NB318_319.out
                  have hns51_3 := NB320_319.out
                  have hms51_0 := NB319_311.out
                  have hms51_1 := NB319_318.out
                  have hms51_3 := NB319_320.out
                  refine skip_ (w1 := ?_) (by rfl) rfl ?_ ?_
                  rotate_left
                  · go_simp
                    rfl
                  refine hK.out _ _ ⟨gb318, gb319, gb320, m6_, m7_, m8_, (by rw [ha.out]; exact putSel_none (v := undef) rfl), (by (with_reducible repeat (first | refine blk_drewN ?_ _ | refine blk_drew ?_ | refine blk_alloc ?_ _)); refine blk_far ?_ NB311_319.out _; (with_reducible repeat (first | refine blk_drewN ?_ _ | refine blk_drew ?_ | refine blk_alloc ?_ _)); refine blk_far ?_ NB311_319.out _; (with_reducible repeat (first | refine blk_drewN ?_ _ | refine blk_drew ?_ | refine blk_alloc ?_ _)); exact BK311.out), (by repeat (first | (with_reducible first | exact HB.out | apply below_alloc | apply pw_below_drewN | apply below_drew1 | refine below_set ?_ GE311.out | refine below_set ?_ GE318.out | refine below_set ?_ GE319.out | refine below_set ?_ GE320.out) | exact HB.out)), fun _ _ => NB319_318.out, fun _ _ => NB318_319.out, fun _ _ => NB320_318.out, fun _ _ => NB318_320.out, fun _ _ => NB320_319.out, fun _ _ => NB319_320.out, fun _ h1_ => absurd ((hon 9 (by kernel_rfl)).symm.trans h1_) (by decide), fun _ => GW318.out, fun _ => GE318.out, fun _ => NB311_318.out, fun _ => NB318_311.out, fun _ h1_ => absurd ((up_self b 10).symm.trans h1_) (by decide), fun _ => GW319.out, fun _ => GE319.out, fun _ => NB311_319.out, fun _ => NB319_311.out, fun _ _ => (by (with_reducible repeat (first | refine blk_drewN ?_ _ | refine blk_drew ?_ | refine blk_alloc ?_ _)); refine blk_far ?_ NB320_319.out _; (with_reducible repeat (first | refine blk_drewN ?_ _ | refine blk_drew ?_ | refine blk_alloc ?_ _)); refine blk_far ?_ NB320_319.out _; (with_reducible repeat (first | refine blk_drewN ?_ _ | refine blk_drew ?_ | refine blk_alloc ?_ _)); exact BK320.out), fun _ => GW320.out, fun _ => GE320.out, fun _ => NB311_320.out, fun _ => NB320_311.out, fun _ => (by (with_reducible repeat (first | refine blk_drewN ?_ _ | refine blk_drew ?_ | refine blk_alloc ?_ _)); refine blk_far ?_ NB318_319.out _; (with_reducible repeat (first | refine blk_drewN ?_ _ | refine blk_drew ?_ | refine blk_alloc ?_ _)); refine blk_far ?_ NB318_319.out _; (with_reducible repeat (first | refine blk_drewN ?_ _ | refine blk_drew ?_ | refine blk_alloc ?_ _)); exact BK318.out), fun _ => (by (with_reducible repeat (first | refine blk_drewN ?_ _ | refine blk_drew ?_ | refine blk_alloc ?_ _)); refine blk_put (cs := #[.int .i64 t314, .int .i64 0]) ?_ 1 _ rfl; (with_reducible repeat (first | refine blk_drewN ?_ _ | refine blk_drew ?_ | refine blk_alloc ?_ _)); refine blk_put (cs := #[.int .i64 0, .int .i64 0]) ?_ 0 _ rfl; (with_reducible repeat (first | refine blk_drewN ?_ _ | refine blk_drew ?_ | refine blk_alloc ?_ _)); exact BK319.out), fun h0_ => absurd ((hoff 11 (by kernel_rfl)).symm.trans h0_) (by decide), Q_X6_, Q_X7_, Q_X8_⟩
                refine steps_cons ?_ ?_
                · rintro b a w' ⟨gb318, gb319, gb320, m6_, m7_, m8_, ha, Q_BK311, Q_HB, Q_NB319_318, Q_NB318_319, Q_NB320_318, Q_NB318_320, Q_NB320_319, Q_NB319_320, Q_BK318, Q_GW318, Q_GE318, Q_NB311_318, Q_NB318_311, Q_BK319, Q_GW319, Q_GE319, Q_NB311_319, Q_NB319_311, Q_BK320, Q_GW320, Q_GE320, Q_NB311_320, Q_NB320_311, Q_BK318_e9, Q_BK319_e10, Q_BK320_e11, Q_X6_, Q_X7_, Q_X8_⟩ hb_ hon hoff
                  refine ⟨_, rfl, fun K hK => ?_⟩
                  have e7 : a.tmps[7]? = some (m8_) := by rw [ha]; exact putSel_on (e := (8, 7, m8_)) 8 rfl rfl (hon 8 (by kernel_rfl)) rfl
                  rw [Q_X8_ (hon 8 (by kernel_rfl))] at e7
                  have e13 : a.tmps[13]? = some (.agg #[.int .i64 t316, .int .i64 t317]) := by rw [ha]; exact putSel_on (e := (5, 13, .agg #[.int .i64 t316, .int .i64 t317])) 5 rfl rfl (hon 5 (by kernel_rfl)) rfl
                  replace ha := Aside0.mk ha
                  have BK311 := Aside0.mk Q_BK311
                  have HB := Aside0.mk Q_HB
                  have NB319_318 := Aside0.mk (Q_NB319_318 (hon 6 (by kernel_rfl)) (hon 7 (by kernel_rfl)))
                  have NB318_319 := Aside0.mk (Q_NB318_319 (hon 6 (by kernel_rfl)) (hon 7 (by kernel_rfl)))
                  have NB320_318 := Aside0.mk (Q_NB320_318 (hon 6 (by kernel_rfl)) (hon 8 (by kernel_rfl)))
                  have NB318_320 := Aside0.mk (Q_NB318_320 (hon 6 (by kernel_rfl)) (hon 8 (by kernel_rfl)))
                  have NB320_319 := Aside0.mk (Q_NB320_319 (hon 7 (by kernel_rfl)) (hon 8 (by kernel_rfl)))
                  have NB319_320 := Aside0.mk (Q_NB319_320 (hon 7 (by kernel_rfl)) (hon 8 (by kernel_rfl)))
                  have GW318 := Aside0.mk (Q_GW318 (hon 6 (by kernel_rfl)))
                  have GE318 := Aside0.mk (Q_GE318 (hon 6 (by kernel_rfl)))
                  have NB311_318 := Aside0.mk (Q_NB311_318 (hon 6 (by kernel_rfl)))
                  have NB318_311 := Aside0.mk (Q_NB318_311 (hon 6 (by kernel_rfl)))
                  have GW319 := Aside0.mk (Q_GW319 (hon 7 (by kernel_rfl)))
                  have GE319 := Aside0.mk (Q_GE319 (hon 7 (by kernel_rfl)))
                  have NB311_319 := Aside0.mk (Q_NB311_319 (hon 7 (by kernel_rfl)))
                  have NB319_311 := Aside0.mk (Q_NB319_311 (hon 7 (by kernel_rfl)))
                  have BK320 := Aside0.mk (Q_BK320 (hon 8 (by kernel_rfl)) hb_)
                  have GW320 := Aside0.mk (Q_GW320 (hon 8 (by kernel_rfl)))
                  have GE320 := Aside0.mk (Q_GE320 (hon 8 (by kernel_rfl)))
                  have NB311_320 := Aside0.mk (Q_NB311_320 (hon 8 (by kernel_rfl)))
                  have NB320_311 := Aside0.mk (Q_NB320_311 (hon 8 (by kernel_rfl)))
                  have BK318 := Aside0.mk (Q_BK318_e9 (hon 9 (by kernel_rfl)))
                  have BK319 := Aside0.mk (Q_BK319_e10 (hon 10 (by kernel_rfl)))
                  have hs52 : w'.cell? ⟨gb320, 0, none⟩ = some (.int .i64 0) := (blk_cell BK320.out 0).trans rfl
                  have hfs52 := blk_frozen BK320.out 0
                  have hns52_0 := NB311_320.out
                  have hns52_1 := NB318_320.out
                  have hns52_2 := NB319_320.out
                  have hms52_0 := NB320_311.out
                  have hms52_1 := NB320_318.out
                  have hms52_2 := NB320_319.out
                  have hs53 : w'.cell? ⟨gb320, 1, none⟩ = some (.int .i64 0) := (blk_cell BK320.out 1).trans rfl
                  have hfs53 := blk_frozen BK320.out 1
                  have hns53_0 := NB311_320.out
                  have hns53_1 := NB318_320.out
                  have hns53_2 := NB319_320.out
                  have hms53_0 := NB320_311.out
                  have hms53_1 := NB320_318.out
                  have hms53_2 := NB320_319.out
                  refine skip_ (w1 := ?_) (by rfl) rfl ?_ ?_
                  rotate_left
                  · go_simp
                    rfl
                  refine hK.out _ _ ⟨gb318, gb319, gb320, m6_, m7_, m8_, (by rw [ha.out]; exact putSel_none (v := undef) rfl), (by (with_reducible repeat (first | refine blk_drewN ?_ _ | refine blk_drew ?_ | refine blk_alloc ?_ _)); refine blk_far ?_ NB311_320.out _; (with_reducible repeat (first | refine blk_drewN ?_ _ | refine blk_drew ?_ | refine blk_alloc ?_ _)); refine blk_far ?_ NB311_320.out _; (with_reducible repeat (first | refine blk_drewN ?_ _ | refine blk_drew ?_ | refine blk_alloc ?_ _)); exact BK311.out), (by repeat (first | (with_reducible first | exact HB.out | apply below_alloc | apply pw_below_drewN | apply below_drew1 | refine below_set ?_ GE311.out | refine below_set ?_ GE318.out | refine below_set ?_ GE319.out | refine below_set ?_ GE320.out) | exact HB.out)), fun _ _ => NB319_318.out, fun _ _ => NB318_319.out, fun _ _ => NB320_318.out, fun _ _ => NB318_320.out, fun _ _ => NB320_319.out, fun _ _ => NB319_320.out, fun _ h1_ => absurd ((hon 9 (by kernel_rfl)).symm.trans h1_) (by decide), fun _ => GW318.out, fun _ => GE318.out, fun _ => NB311_318.out, fun _ => NB318_311.out, fun _ h1_ => absurd ((hon 10 (by kernel_rfl)).symm.trans h1_) (by decide), fun _ => GW319.out, fun _ => GE319.out, fun _ => NB311_319.out, fun _ => NB319_311.out, fun _ h1_ => absurd ((up_self b 11).symm.trans h1_) (by decide), fun _ => GW320.out, fun _ => GE320.out, fun _ => NB311_320.out, fun _ => NB320_311.out, fun _ => (by (with_reducible repeat (first | refine blk_drewN ?_ _ | refine blk_drew ?_ | refine blk_alloc ?_ _)); refine blk_far ?_ NB318_320.out _; (with_reducible repeat (first | refine blk_drewN ?_ _ | refine blk_drew ?_ | refine blk_alloc ?_ _)); refine blk_far ?_ NB318_320.out _; (with_reducible repeat (first | refine blk_drewN ?_ _ | refine blk_drew ?_ | refine blk_alloc ?_ _)); exact BK318.out), fun _ => (by (with_reducible repeat (first | refine blk_drewN ?_ _ | refine blk_drew ?_ | refine blk_alloc ?_ _)); refine blk_far ?_ NB319_320.out _; (with_reducible repeat (first | refine blk_drewN ?_ _ | refine blk_drew ?_ | refine blk_alloc ?_ _)); refine blk_far ?_ NB319_320.out _; (with_reducible repeat (first | refine blk_drewN ?_ _ | refine blk_drew ?_ | refine blk_alloc ?_ _)); exact BK319.out), fun _ => (by (with_reducible repeat (first | refine blk_drewN ?_ _ | refine blk_drew ?_ | refine blk_alloc ?_ _)); refine blk_put (cs := #[.int .i64 t316, .int .i64 0]) ?_ 1 _ rfl; (with_reducible repeat (first | refine blk_drewN ?_ _ | refine blk_drew ?_ | refine blk_alloc ?_ _)); refine blk_put (cs := #[.int .i64 0, .int .i64 0]) ?_ 0 _ rfl; (with_reducible repeat (first | refine blk_drewN ?_ _ | refine blk_drew ?_ | refine blk_alloc ?_ _)); exact BK320.out), Q_X6_, Q_X7_, Q_X8_⟩
                exact steps_nil
              rintro b a w53 hall ⟨gb318, gb319, gb320, m6_, m7_, m8_, ha, Q_BK311, Q_HB, Q_NB319_318, Q_NB318_319, Q_NB320_318, Q_NB318_320, Q_NB320_319, Q_NB319_320, Q_BK318, Q_GW318, Q_GE318, Q_NB311_318, Q_NB318_311, Q_BK319, Q_GW319, Q_GE319, Q_NB311_319, Q_NB319_311, Q_BK320, Q_GW320, Q_GE320, Q_NB311_320, Q_NB320_311, Q_BK318_e9, Q_BK319_e10, Q_BK320_e11, Q_X6_, Q_X7_, Q_X8_⟩
              clear BK311 HB
              have hb0_ := hall 0 (by kernel_rfl)
              have hb1_ := hall 1 (by kernel_rfl)
              have hb2_ := hall 2 (by kernel_rfl)
              have hb3_ := hall 3 (by kernel_rfl)
              have hb4_ := hall 4 (by kernel_rfl)
              have hb5_ := hall 5 (by kernel_rfl)
              have hb6_ := hall 6 (by kernel_rfl)
              have hb7_ := hall 7 (by kernel_rfl)
              have hb8_ := hall 8 (by kernel_rfl)
              have hb9_ := hall 9 (by kernel_rfl)
              have hb10_ := hall 10 (by kernel_rfl)
              have hb11_ := hall 11 (by kernel_rfl)
              subst ha
              obtain rfl := Q_X6_ hb6_
              obtain rfl := Q_X7_ hb7_
              obtain rfl := Q_X8_ hb8_
              simp only [putSel, hb0_, hb1_, hb2_, hb3_, hb4_, hb5_, hb6_, hb7_, hb8_, hb9_, hb10_, hb11_, if_true, Act.put, List.setIfInBounds_toArray, List.set_cons_zero, List.set_cons_succ]
              have BK311 := Aside0.mk Q_BK311
              clear Q_BK311
              have HB := Aside0.mk Q_HB
              clear Q_HB
              have NB319_318 := Aside0.mk (Q_NB319_318 hb6_ hb7_)
              clear Q_NB319_318
              have NB318_319 := Aside0.mk (Q_NB318_319 hb6_ hb7_)
              clear Q_NB318_319
              have NB320_318 := Aside0.mk (Q_NB320_318 hb6_ hb8_)
              clear Q_NB320_318
              have NB318_320 := Aside0.mk (Q_NB318_320 hb6_ hb8_)
              clear Q_NB318_320
              have NB320_319 := Aside0.mk (Q_NB320_319 hb7_ hb8_)
              clear Q_NB320_319
              have NB319_320 := Aside0.mk (Q_NB319_320 hb7_ hb8_)
              clear Q_NB319_320
              clear Q_BK318
              have GW318 := Aside0.mk (Q_GW318 hb6_)
              clear Q_GW318
              have GE318 := Aside0.mk (Q_GE318 hb6_)
              clear Q_GE318
              have NB311_318 := Aside0.mk (Q_NB311_318 hb6_)
              clear Q_NB311_318
              have NB318_311 := Aside0.mk (Q_NB318_311 hb6_)
              clear Q_NB318_311
              clear Q_BK319
              have GW319 := Aside0.mk (Q_GW319 hb7_)
              clear Q_GW319
              have GE319 := Aside0.mk (Q_GE319 hb7_)
              clear Q_GE319
              have NB311_319 := Aside0.mk (Q_NB311_319 hb7_)
              clear Q_NB311_319
              have NB319_311 := Aside0.mk (Q_NB319_311 hb7_)
              clear Q_NB319_311
              clear Q_BK320
              have GW320 := Aside0.mk (Q_GW320 hb8_)
              clear Q_GW320
              have GE320 := Aside0.mk (Q_GE320 hb8_)
              clear Q_GE320
              have NB311_320 := Aside0.mk (Q_NB311_320 hb8_)
              clear Q_NB311_320
              have NB320_311 := Aside0.mk (Q_NB320_311 hb8_)
              clear Q_NB320_311
              have BK318 := Aside0.mk (Q_BK318_e9 hb9_)
              clear Q_BK318_e9
              have BK319 := Aside0.mk (Q_BK319_e10 hb10_)
              clear Q_BK319_e10
              have BK320 := Aside0.mk (Q_BK320_e11 hb11_)
              clear Q_BK320_e11
              clear hall hb0_ hb1_ hb2_ hb3_ hb4_ hb5_ hb6_ hb7_ hb8_ hb9_ hb10_ hb11_
              try go_wp2
              have n0_ := Aside0.mk (blk_drew BK311.out)
              have n1_ := Aside0.mk (blk_drew BK318.out)
              have n2_ := Aside0.mk (blk_drew BK319.out)
              have n3_ := Aside0.mk (blk_drew BK320.out)
              have n4_ := Aside0.mk (below_drew1 HB.out)
              clear BK311
              clear BK318
              clear BK319
              clear BK320
              clear HB
              have BK311 := n0_
              have BK318 := n1_
              have BK319 := n2_
              have BK320 := n3_
              have HB := n4_
              clear n0_ n1_ n2_ n3_ n4_
              refine start_ (n := 5) (S := fun w' => w'.cell? ⟨gb311, 0, none⟩ = some (.int .i64 a0_0) ∧ w'.cell? ⟨gb311, 1, none⟩ = some (.int .i64 a0_1)) (ds := []) #[false, false, false, false, false] (by kernel_rfl) rfl rfl ⟨(blk_cell BK311.out 0).trans rfl, (blk_cell BK311.out 1).trans rfl⟩ (fun hHeld => ?_)
              generalize w53.drew = w54 at BK311 BK318 BK319 BK320 HB hHeld ⊢
              refine take_ (i := 0) (N := some 14) (v := ?_) (a' := ?_) #[true, false, false, false, false] rfl rfl (by kernel_rfl) (fun _ _ _ h => h) (Or.inl ⟨by rfl, ?_⟩) hHeld ?_ ?_
              rotate_left
              · rintro w' ⟨s0, s1⟩
                go_simp
                with_reducible rfl
              rotate_left
              · simp only [Act.put, List.setIfInBounds_toArray, List.set_cons_zero, List.set_cons_succ, i64_w, i32_w]
                rfl
              refine take_ (i := 2) (N := some 16) (v := ?_) (a' := ?_) #[true, false, true, false, false] rfl rfl (by kernel_rfl) (fun _ _ _ h => h) (Or.inl ⟨by rfl, ?_⟩) hHeld ?_ ?_
              rotate_left
              · rintro w' ⟨s0, s1⟩
                go_simp
                with_reducible rfl
              rotate_left
              · simp only [Act.put, List.setIfInBounds_toArray, List.set_cons_zero, List.set_cons_succ, i64_w, i32_w]
                rfl
              refine one_ (i := 1) (N := some 15) #[true, true, true, false, false] rfl rfl (by kernel_rfl) (by decide) (fun K hK => ?_)
              refine goes_ Tryz.func11 (by kernel_rfl) rfl #[.agg #[.int .i64 a0_0, .int .i64 a0_1]] (by rfl) rfl rfl (by (try simp only [List.map_toArray, List.map_cons, List.map_nil]); first | done | rfl | (simp only [List.length_drop, List.length_take]; rfl)) ?_
              with_reducible refine (xnum_Right.calls a0_0 a0_1 t321 _ ?side1 A6.out).mono ?_
              (case side1 => first | exact HLD | exact Laid.below HLD (by repeat (first | (with_reducible first | exact HB.out | apply below_alloc | apply pw_below_drewN | apply below_drew1 | refine below_set ?_ GE311.out | refine below_set ?_ GE318.out | refine below_set ?_ GE319.out | refine below_set ?_ GE320.out) | exact HB.out)))
              rintro e w55 ⟨rfl, hb⟩
              refine ⟨_, rfl, ?_⟩
              have n0_ := Aside0.mk (blk_below (g := gb311) (o := .cells #[.int .i64 a0_0, .int .i64 a0_1] 24 (0, 0)) (by (with_reducible repeat (first | refine blk_drewN ?_ _ | refine blk_drew ?_ | refine blk_alloc ?_ _)); exact BK311.out) hb)
              have n1_ := Aside0.mk (blk_below (g := gb318) (o := .cells #[.int .i64 t312, .int .i64 t313] 24 (0, 0)) (by (with_reducible repeat (first | refine blk_drewN ?_ _ | refine blk_drew ?_ | refine blk_alloc ?_ _)); exact BK318.out) hb)
              have n2_ := Aside0.mk (blk_below (g := gb319) (o := .cells #[.int .i64 t314, .int .i64 t315] 24 (0, 0)) (by (with_reducible repeat (first | refine blk_drewN ?_ _ | refine blk_drew ?_ | refine blk_alloc ?_ _)); exact BK319.out) hb)
              have n3_ := Aside0.mk (blk_below (g := gb320) (o := .cells #[.int .i64 t316, .int .i64 t317] 24 (0, 0)) (by (with_reducible repeat (first | refine blk_drewN ?_ _ | refine blk_drew ?_ | refine blk_alloc ?_ _)); exact BK320.out) hb)
              have n4_ := Aside0.mk (below_step (by repeat (first | (with_reducible first | exact HB.out | apply below_alloc | apply pw_below_drewN | apply below_drew1 | refine below_set ?_ GE311.out | refine below_set ?_ GE318.out | refine below_set ?_ GE319.out | refine below_set ?_ GE320.out) | exact HB.out)) hb)
              clear BK311
              clear BK318
              clear BK319
              clear BK320
              clear HB
              have BK311 := n0_
              have BK318 := n1_
              have BK319 := n2_
              have BK320 := n3_
              have HB := n4_
              clear n0_ n1_ n2_ n3_ n4_
              (try clear hb)
              (try clear hb2)
              (try clear hk)
              (try clear hi)
              refine hK.out _ _ ⟨(blk_cell BK311.out 0).trans rfl, (blk_cell BK311.out 1).trans rfl⟩ (fun hHeld => ?_)
              clear hK K
              refine norm_ (a' := ?_) ?_ ?_
              rotate_left
              · show Act.put _ (some 15) _ = _
                simp only [Act.put, List.setIfInBounds_toArray, List.set_cons_zero, List.set_cons_succ, i64_w, i32_w]
                rfl
              refine one_ (i := 3) (N := some 17) #[true, true, true, true, false] rfl rfl (by kernel_rfl) (by decide) (fun K hK => ?_)
              refine goes_ Tryz.func33 (by kernel_rfl) rfl #[.agg #[.int .i64 a0_0, .int .i64 a0_1]] (by rfl) rfl rfl (by (try simp only [List.map_toArray, List.map_cons, List.map_nil]); first | done | rfl | (simp only [List.length_drop, List.length_take]; rfl)) ?_
              with_reducible refine (stencilref02_Right.calls a0_0 a0_1 t322 _ ?side1 A7.out).mono ?_
              (case side1 => first | exact HLD | exact Laid.below HLD (by repeat (first | (with_reducible first | exact HB.out | apply below_alloc | apply pw_below_drewN | apply below_drew1 | refine below_set ?_ GE311.out | refine below_set ?_ GE318.out | refine below_set ?_ GE319.out | refine below_set ?_ GE320.out) | exact HB.out)))
              rintro e w56 ⟨rfl, hb⟩
              refine ⟨_, rfl, ?_⟩
              have n0_ := Aside0.mk (blk_below (g := gb311) (o := .cells #[.int .i64 a0_0, .int .i64 a0_1] 24 (0, 0)) (by (with_reducible repeat (first | refine blk_drewN ?_ _ | refine blk_drew ?_ | refine blk_alloc ?_ _)); exact BK311.out) hb)
              have n1_ := Aside0.mk (blk_below (g := gb318) (o := .cells #[.int .i64 t312, .int .i64 t313] 24 (0, 0)) (by (with_reducible repeat (first | refine blk_drewN ?_ _ | refine blk_drew ?_ | refine blk_alloc ?_ _)); exact BK318.out) hb)
              have n2_ := Aside0.mk (blk_below (g := gb319) (o := .cells #[.int .i64 t314, .int .i64 t315] 24 (0, 0)) (by (with_reducible repeat (first | refine blk_drewN ?_ _ | refine blk_drew ?_ | refine blk_alloc ?_ _)); exact BK319.out) hb)
              have n3_ := Aside0.mk (blk_below (g := gb320) (o := .cells #[.int .i64 t316, .int .i64 t317] 24 (0, 0)) (by (with_reducible repeat (first | refine blk_drewN ?_ _ | refine blk_drew ?_ | refine blk_alloc ?_ _)); exact BK320.out) hb)
              have n4_ := Aside0.mk (below_step (by repeat (first | (with_reducible first | exact HB.out | apply below_alloc | apply pw_below_drewN | apply below_drew1 | refine below_set ?_ GE311.out | refine below_set ?_ GE318.out | refine below_set ?_ GE319.out | refine below_set ?_ GE320.out) | exact HB.out)) hb)
              clear BK311
              clear BK318
              clear BK319
              clear BK320
              clear HB
              have BK311 := n0_
              have BK318 := n1_
              have BK319 := n2_
              have BK320 := n3_
              have HB := n4_
              clear n0_ n1_ n2_ n3_ n4_
              (try clear hb)
              (try clear hb2)
              (try clear hk)
              (try clear hi)
              refine hK.out _ _ ⟨(blk_cell BK311.out 0).trans rfl, (blk_cell BK311.out 1).trans rfl⟩ (fun hHeld => ?_)
              clear hK K
              refine norm_ (a' := ?_) ?_ ?_
              rotate_left
              · show Act.put _ (some 17) _ = _
                simp only [Act.put, List.setIfInBounds_toArray, List.set_cons_zero, List.set_cons_succ, i64_w, i32_w]
                rfl
              refine pure_ (i := 4) (N := some 18) (v := ?_) (a' := ?_) #[true, true, true, true, true] rfl rfl (by kernel_rfl) (fun _ _ _ h => h) (Or.inl ⟨by rfl, ?_⟩) ?_ ?_
              rotate_left
              · intro w'
                go_simp
                with_reducible rfl
              rotate_left
              · simp only [Act.put, List.setIfInBounds_toArray, List.set_cons_zero, List.set_cons_succ, i64_w, i32_w]
                rfl
              refine done_ (by kernel_rfl) ?_
              have hnb57 := NB311_318.out
              have hnc57 := NB318_311.out
              have hnb58 := NB311_319.out
              have hnc58 := NB319_311.out
              have hnb59 := NB311_320.out
              have hnc59 := NB320_311.out
              have hcz60_0 : w56.cell? ⟨gb311, 0, none⟩ = some (.int .i64 a0_0) := (blk_cell BK311.out 0).trans rfl
              have hcz60_1 : w56.cell? ⟨gb311, 1, none⟩ = some (.int .i64 a0_1) := (blk_cell BK311.out 1).trans rfl
              have hfz60_0 := blk_frozen BK311.out 0
              have hfz60_1 := blk_frozen BK311.out 1
              try go_wp2_with (first | ((with_reducible refine gate_callee (f := 33) rfl ?_); refine goesL_ (some 20) rfl rfl Tryz.func33 (by kernel_rfl) rfl #[.agg #[.int .i64 a0_0, .int .i64 a0_1]] rfl (by (try simp only [List.map_toArray, List.map_cons, List.map_nil]); first | done | rfl | (simp only [List.length_drop, List.length_take]; rfl)) ?_; (with_reducible refine (stencilref02_Right.calls a0_0 a0_1 true _ ?side1 A27.out).mono ?_); (case side1 => first | exact HLD | exact Laid.below HLD (by repeat (first | (with_reducible first | exact HB.out | apply below_alloc | apply pw_below_drewN | apply below_drew1 | refine below_set ?_ GE311.out | refine below_set ?_ GE318.out | refine below_set ?_ GE319.out | refine below_set ?_ GE320.out) | exact HB.out))); rintro e w61 ⟨rfl, hb⟩; refine ⟨_, rfl, ?_⟩; have n0_ := Aside0.mk (blk_below (g := gb311) (o := .cells #[.int .i64 a0_0, .int .i64 a0_1] 24 (0, 0)) (by (with_reducible repeat (first | refine blk_drewN ?_ _ | refine blk_drew ?_ | refine blk_alloc ?_ _)); exact BK311.out) hb); have n1_ := Aside0.mk (blk_below (g := gb318) (o := .cells #[.int .i64 t312, .int .i64 t313] 24 (0, 0)) (by (with_reducible repeat (first | refine blk_drewN ?_ _ | refine blk_drew ?_ | refine blk_alloc ?_ _)); exact BK318.out) hb); have n2_ := Aside0.mk (blk_below (g := gb319) (o := .cells #[.int .i64 t314, .int .i64 t315] 24 (0, 0)) (by (with_reducible repeat (first | refine blk_drewN ?_ _ | refine blk_drew ?_ | refine blk_alloc ?_ _)); exact BK319.out) hb); have n3_ := Aside0.mk (blk_below (g := gb320) (o := .cells #[.int .i64 t316, .int .i64 t317] 24 (0, 0)) (by (with_reducible repeat (first | refine blk_drewN ?_ _ | refine blk_drew ?_ | refine blk_alloc ?_ _)); exact BK320.out) hb); have n4_ := Aside0.mk (below_step (by repeat (first | (with_reducible first | exact HB.out | apply below_alloc | apply pw_below_drewN | apply below_drew1 | refine below_set ?_ GE311.out | refine below_set ?_ GE318.out | refine below_set ?_ GE319.out | refine below_set ?_ GE320.out) | exact HB.out)) hb); clear BK311; clear BK318; clear BK319; clear BK320; clear HB; have BK311 := n0_; have BK318 := n1_; have BK319 := n2_; have BK320 := n3_; have HB := n4_; clear n0_ n1_ n2_ n3_ n4_; (try clear hb); (try clear hb2); (try clear hk); (try clear hi)))
              have n0_ := Aside0.mk (blk_drew BK311.out)
              have n1_ := Aside0.mk (blk_drew BK318.out)
              have n2_ := Aside0.mk (blk_drew BK319.out)
              have n3_ := Aside0.mk (blk_drew BK320.out)
              have n4_ := Aside0.mk (below_drew1 HB.out)
              clear BK311
              clear BK318
              clear BK319
              clear BK320
              clear HB
              have BK311 := n0_
              have BK318 := n1_
              have BK319 := n2_
              have BK320 := n3_
              have HB := n4_
              clear n0_ n1_ n2_ n3_ n4_
              refine start_ (n := 27) (S := fun w' => w'.cell? ⟨gb318, 0, none⟩ = some (.int .i64 t312) ∧ w'.cell? ⟨gb318, 1, none⟩ = some (.int .i64 t313) ∧ w'.cell? ⟨gb311, 0, none⟩ = some (.int .i64 a0_0) ∧ w'.cell? ⟨gb311, 1, none⟩ = some (.int .i64 a0_1) ∧ w'.cell? ⟨gb319, 0, none⟩ = some (.int .i64 t314) ∧ w'.cell? ⟨gb319, 1, none⟩ = some (.int .i64 t315) ∧ w'.cell? ⟨gb320, 0, none⟩ = some (.int .i64 t316) ∧ w'.cell? ⟨gb320, 1, none⟩ = some (.int .i64 t317)) (ds := []) #[false, false, false, false, false, false, false, false, false, false, false, false, false, false, false, false, false, false, false, false, false, false, false, false, false, false, false] (by kernel_rfl) rfl rfl ⟨(blk_cell BK318.out 0).trans rfl, (blk_cell BK318.out 1).trans rfl, (blk_cell BK311.out 0).trans rfl, (blk_cell BK311.out 1).trans rfl, (blk_cell BK319.out 0).trans rfl, (blk_cell BK319.out 1).trans rfl, (blk_cell BK320.out 0).trans rfl, (blk_cell BK320.out 1).trans rfl⟩ (fun hHeld => ?_); refine with_tabW stencillaw02_XnumWhole.tab6 stencillaw02_XnumWhole.bits6 (fun HT_ HW_ => ?_)
              generalize w61.drew = w62 at BK311 BK318 BK319 BK320 HB hHeld ⊢
              refine one_ (i := 0) (N := some 23) #[true, false, false, false, false, false, false, false, false, false, false, false, false, false, false, false, false, false, false, false, false, false, false, false, false, false, false] rfl rfl (one_of HT_.out (by kernel_rfl)) (by decide) (fun K hK => ?_)
              refine goes_ Tryz.func25 (by kernel_rfl) rfl #[] (by rfl) rfl rfl (by (try simp only [List.map_toArray, List.map_cons, List.map_nil]); first | done | rfl | (simp only [List.length_drop, List.length_take]; rfl)) ?_
              with_reducible refine (stencillaw02_live.calls k  true _ ?side1 A29.out).mono ?_
              (case side1 => first | exact HLD | exact Laid.below HLD (by repeat (first | (with_reducible first | exact HB.out | apply below_alloc | apply pw_below_drewN | apply below_drew1 | refine below_set ?_ GE311.out | refine below_set ?_ GE318.out | refine below_set ?_ GE319.out | refine below_set ?_ GE320.out) | exact HB.out)))
              rintro e w63 ⟨rfl, hb⟩
              refine ⟨_, rfl, ?_⟩
              have n0_ := Aside0.mk (blk_below (g := gb311) (o := .cells #[.int .i64 a0_0, .int .i64 a0_1] 24 (0, 0)) (by (with_reducible repeat (first | refine blk_drewN ?_ _ | refine blk_drew ?_ | refine blk_alloc ?_ _)); exact BK311.out) hb)
              have n1_ := Aside0.mk (blk_below (g := gb318) (o := .cells #[.int .i64 t312, .int .i64 t313] 24 (0, 0)) (by (with_reducible repeat (first | refine blk_drewN ?_ _ | refine blk_drew ?_ | refine blk_alloc ?_ _)); exact BK318.out) hb)
              have n2_ := Aside0.mk (blk_below (g := gb319) (o := .cells #[.int .i64 t314, .int .i64 t315] 24 (0, 0)) (by (with_reducible repeat (first | refine blk_drewN ?_ _ | refine blk_drew ?_ | refine blk_alloc ?_ _)); exact BK319.out) hb)
              have n3_ := Aside0.mk (blk_below (g := gb320) (o := .cells #[.int .i64 t316, .int .i64 t317] 24 (0, 0)) (by (with_reducible repeat (first | refine blk_drewN ?_ _ | refine blk_drew ?_ | refine blk_alloc ?_ _)); exact BK320.out) hb)
              have n4_ := Aside0.mk (below_step (by repeat (first | (with_reducible first | exact HB.out | apply below_alloc | apply pw_below_drewN | apply below_drew1 | refine below_set ?_ GE311.out | refine below_set ?_ GE318.out | refine below_set ?_ GE319.out | refine below_set ?_ GE320.out) | exact HB.out)) hb)
              clear BK311
              clear BK318
              clear BK319
              clear BK320
              clear HB
              have BK311 := n0_
              have BK318 := n1_
              have BK319 := n2_
              have BK320 := n3_
              have HB := n4_
              clear n0_ n1_ n2_ n3_ n4_
              (try clear hb)
              (try clear hb2)
              (try clear hk)
              (try clear hi)
              refine hK.out _ _ ⟨(blk_cell BK318.out 0).trans rfl, (blk_cell BK318.out 1).trans rfl, (blk_cell BK311.out 0).trans rfl, (blk_cell BK311.out 1).trans rfl, (blk_cell BK319.out 0).trans rfl, (blk_cell BK319.out 1).trans rfl, (blk_cell BK320.out 0).trans rfl, (blk_cell BK320.out 1).trans rfl⟩ (fun hHeld => ?_)
              clear hK K
              refine norm_ (a' := ?_) ?_ ?_
              rotate_left
              · show Act.put _ (some 23) _ = _
                simp only [Act.put, List.setIfInBounds_toArray, List.set_cons_zero, List.set_cons_succ, i64_w, i32_w]
                rfl
              refine pure_ (i := 1) (N := some 24) (v := ?_) (a' := ?_) #[true, true, false, false, false, false, false, false, false, false, false, false, false, false, false, false, false, false, false, false, false, false, false, false, false, false, false] rfl rfl (any_of HT_.out (by kernel_rfl)) (fun _ _ _ h => h) (Or.inl ⟨by rfl, ?_⟩) ?_ ?_
              rotate_left
              · intro w'
                go_simp
                with_reducible rfl
              rotate_left
              · simp only [Act.put, List.setIfInBounds_toArray, List.set_cons_zero, List.set_cons_succ, i64_w, i32_w]
                rfl
              refine take_ (i := 2) (N := some 25) (v := ?_) (a' := ?_) #[true, true, true, false, false, false, false, false, false, false, false, false, false, false, false, false, false, false, false, false, false, false, false, false, false, false, false] rfl rfl (take_ofW HT_.out HW_.out (by kernel_rfl)) (fun _ _ _ h => h) (Or.inl ⟨by rfl, ?_⟩) hHeld ?_ ?_
              rotate_left
              · rintro w' ⟨s0, s1, s2, s3, s4, s5, s6, s7⟩
                go_simp
                with_reducible rfl
              rotate_left
              · simp only [Act.put, List.setIfInBounds_toArray, List.set_cons_zero, List.set_cons_succ, i64_w, i32_w]
                rfl
              refine take_ (i := 3) (N := some 26) (v := ?_) (a' := ?_) #[true, true, true, true, false, false, false, false, false, false, false, false, false, false, false, false, false, false, false, false, false, false, false, false, false, false, false] rfl rfl (take_ofW HT_.out HW_.out (by kernel_rfl)) (fun _ _ _ h => h) (Or.inl ⟨by rfl, ?_⟩) hHeld ?_ ?_
              rotate_left
              · rintro w' ⟨s0, s1, s2, s3, s4, s5, s6, s7⟩
                go_simp
                with_reducible rfl
              rotate_left
              · simp only [Act.put, List.setIfInBounds_toArray, List.set_cons_zero, List.set_cons_succ, i64_w, i32_w]
                rfl
              refine one_ (i := 4) (N := some 27) #[true, true, true, true, true, false, false, false, false, false, false, false, false, false, false, false, false, false, false, false, false, false, false, false, false, false, false] rfl rfl (one_of HT_.out (by kernel_rfl)) (by decide) (fun K hK => ?_)
              refine goes_ Tryz.func38 (by kernel_rfl) rfl #[.agg #[.int .i64 a0_0, .int .i64 a0_1]] (by rfl) rfl rfl (by (try simp only [List.map_toArray, List.map_cons, List.map_nil]); first | done | rfl | (simp only [List.length_drop, List.length_take]; rfl)) ?_
              with_reducible refine (stencilref02_Floor.calls a0_0 a0_1 t326 t327 _ ?side1 A31.out).mono ?_
              (case side1 => first | exact HLD | exact Laid.below HLD (by repeat (first | (with_reducible first | exact HB.out | apply below_alloc | apply pw_below_drewN | apply below_drew1 | refine below_set ?_ GE311.out | refine below_set ?_ GE318.out | refine below_set ?_ GE319.out | refine below_set ?_ GE320.out) | exact HB.out)))
              rintro e w64 ⟨rfl, hb⟩
              refine ⟨_, rfl, ?_⟩
              have n0_ := Aside0.mk (blk_below (g := gb311) (o := .cells #[.int .i64 a0_0, .int .i64 a0_1] 24 (0, 0)) (by (with_reducible repeat (first | refine blk_drewN ?_ _ | refine blk_drew ?_ | refine blk_alloc ?_ _)); exact BK311.out) hb)
              have n1_ := Aside0.mk (blk_below (g := gb318) (o := .cells #[.int .i64 t312, .int .i64 t313] 24 (0, 0)) (by (with_reducible repeat (first | refine blk_drewN ?_ _ | refine blk_drew ?_ | refine blk_alloc ?_ _)); exact BK318.out) hb)
              have n2_ := Aside0.mk (blk_below (g := gb319) (o := .cells #[.int .i64 t314, .int .i64 t315] 24 (0, 0)) (by (with_reducible repeat (first | refine blk_drewN ?_ _ | refine blk_drew ?_ | refine blk_alloc ?_ _)); exact BK319.out) hb)
              have n3_ := Aside0.mk (blk_below (g := gb320) (o := .cells #[.int .i64 t316, .int .i64 t317] 24 (0, 0)) (by (with_reducible repeat (first | refine blk_drewN ?_ _ | refine blk_drew ?_ | refine blk_alloc ?_ _)); exact BK320.out) hb)
              have n4_ := Aside0.mk (below_step (by repeat (first | (with_reducible first | exact HB.out | apply below_alloc | apply pw_below_drewN | apply below_drew1 | refine below_set ?_ GE311.out | refine below_set ?_ GE318.out | refine below_set ?_ GE319.out | refine below_set ?_ GE320.out) | exact HB.out)) hb)
              clear BK311
              clear BK318
              clear BK319
              clear BK320
              clear HB
              have BK311 := n0_
              have BK318 := n1_
              have BK319 := n2_
              have BK320 := n3_
              have HB := n4_
              clear n0_ n1_ n2_ n3_ n4_
              (try clear hb)
              (try clear hb2)
              (try clear hk)
              (try clear hi)
              refine hK.out _ _ ⟨(blk_cell BK318.out 0).trans rfl, (blk_cell BK318.out 1).trans rfl, (blk_cell BK311.out 0).trans rfl, (blk_cell BK311.out 1).trans rfl, (blk_cell BK319.out 0).trans rfl, (blk_cell BK319.out 1).trans rfl, (blk_cell BK320.out 0).trans rfl, (blk_cell BK320.out 1).trans rfl⟩ (fun hHeld => ?_)
              clear hK K
              refine norm_ (a' := ?_) ?_ ?_
              rotate_left
              · show Act.put _ (some 27) _ = _
                simp only [Act.put, List.setIfInBounds_toArray, List.set_cons_zero, List.set_cons_succ, i64_w, i32_w]
                rfl
              refine pure_ (i := 5) (N := some 28) (v := ?_) (a' := ?_) #[true, true, true, true, true, true, false, false, false, false, false, false, false, false, false, false, false, false, false, false, false, false, false, false, false, false, false] rfl rfl (any_of HT_.out (by kernel_rfl)) (fun _ _ _ h => h) (Or.inl ⟨by rfl, ?_⟩) ?_ ?_
              rotate_left
              · intro w'
                go_simp
                with_reducible rfl
              rotate_left
              · simp only [Act.put, List.setIfInBounds_toArray, List.set_cons_zero, List.set_cons_succ, i64_w, i32_w]
                rfl
              refine pure_ (i := 6) (N := some 29) (v := ?_) (a' := ?_) #[true, true, true, true, true, true, true, false, false, false, false, false, false, false, false, false, false, false, false, false, false, false, false, false, false, false, false] rfl rfl (any_of HT_.out (by kernel_rfl)) (fun _ _ _ h => h) (Or.inl ⟨by rfl, ?_⟩) ?_ ?_
              rotate_left
              · intro w'
                go_simp
                with_reducible rfl
              rotate_left
              · simp only [Act.put, List.setIfInBounds_toArray, List.set_cons_zero, List.set_cons_succ, i64_w, i32_w]
                rfl
              refine pure_ (i := 7) (N := some 30) (v := ?_) (a' := ?_) #[true, true, true, true, true, true, true, true, false, false, false, false, false, false, false, false, false, false, false, false, false, false, false, false, false, false, false] rfl rfl (any_of HT_.out (by kernel_rfl)) (fun _ _ _ h => h) (Or.inl ⟨by rfl, ?_⟩) ?_ ?_
              rotate_left
              · intro w'
                go_simp
                with_reducible rfl
              rotate_left
              · simp only [Act.put, List.setIfInBounds_toArray, List.set_cons_zero, List.set_cons_succ, i64_w, i32_w]
                rfl
              refine take_ (i := 8) (N := some 31) (v := ?_) (a' := ?_) #[true, true, true, true, true, true, true, true, true, false, false, false, false, false, false, false, false, false, false, false, false, false, false, false, false, false, false] rfl rfl (take_ofW HT_.out HW_.out (by kernel_rfl)) (fun _ _ _ h => h) (Or.inl ⟨by rfl, ?_⟩) hHeld ?_ ?_
              rotate_left
              · rintro w' ⟨s0, s1, s2, s3, s4, s5, s6, s7⟩
                go_simp
                with_reducible rfl
              rotate_left
              · simp only [Act.put, List.setIfInBounds_toArray, List.set_cons_zero, List.set_cons_succ, i64_w, i32_w]
                rfl
              refine take_ (i := 9) (N := some 32) (v := ?_) (a' := ?_) #[true, true, true, true, true, true, true, true, true, true, false, false, false, false, false, false, false, false, false, false, false, false, false, false, false, false, false] rfl rfl (take_ofW HT_.out HW_.out (by kernel_rfl)) (fun _ _ _ h => h) (Or.inl ⟨by rfl, ?_⟩) hHeld ?_ ?_
              rotate_left
              · rintro w' ⟨s0, s1, s2, s3, s4, s5, s6, s7⟩
                go_simp
                with_reducible rfl
              rotate_left
              · simp only [Act.put, List.setIfInBounds_toArray, List.set_cons_zero, List.set_cons_succ, i64_w, i32_w]
                rfl
              refine one_ (i := 10) (N := some 33) #[true, true, true, true, true, true, true, true, true, true, true, false, false, false, false, false, false, false, false, false, false, false, false, false, false, false, false] rfl rfl (one_of HT_.out (by kernel_rfl)) (by decide) (fun K hK => ?_)
              refine goes_ Tryz.func39 (by kernel_rfl) rfl #[.agg #[.int .i64 a0_0, .int .i64 a0_1]] (by rfl) rfl rfl (by (try simp only [List.map_toArray, List.map_cons, List.map_nil]); first | done | rfl | (simp only [List.length_drop, List.length_take]; rfl)) ?_
              with_reducible refine (stencilref02_Ceiling.calls a0_0 a0_1 t328 t329 _ ?side1 A33.out).mono ?_
              (case side1 => first | exact HLD | exact Laid.below HLD (by repeat (first | (with_reducible first | exact HB.out | apply below_alloc | apply pw_below_drewN | apply below_drew1 | refine below_set ?_ GE311.out | refine below_set ?_ GE318.out | refine below_set ?_ GE319.out | refine below_set ?_ GE320.out) | exact HB.out)))
              rintro e w65 ⟨rfl, hb⟩
              refine ⟨_, rfl, ?_⟩
              have n0_ := Aside0.mk (blk_below (g := gb311) (o := .cells #[.int .i64 a0_0, .int .i64 a0_1] 24 (0, 0)) (by (with_reducible repeat (first | refine blk_drewN ?_ _ | refine blk_drew ?_ | refine blk_alloc ?_ _)); exact BK311.out) hb)
              have n1_ := Aside0.mk (blk_below (g := gb318) (o := .cells #[.int .i64 t312, .int .i64 t313] 24 (0, 0)) (by (with_reducible repeat (first | refine blk_drewN ?_ _ | refine blk_drew ?_ | refine blk_alloc ?_ _)); exact BK318.out) hb)
              have n2_ := Aside0.mk (blk_below (g := gb319) (o := .cells #[.int .i64 t314, .int .i64 t315] 24 (0, 0)) (by (with_reducible repeat (first | refine blk_drewN ?_ _ | refine blk_drew ?_ | refine blk_alloc ?_ _)); exact BK319.out) hb)
              have n3_ := Aside0.mk (blk_below (g := gb320) (o := .cells #[.int .i64 t316, .int .i64 t317] 24 (0, 0)) (by (with_reducible repeat (first | refine blk_drewN ?_ _ | refine blk_drew ?_ | refine blk_alloc ?_ _)); exact BK320.out) hb)
              have n4_ := Aside0.mk (below_step (by repeat (first | (with_reducible first | exact HB.out | apply below_alloc | apply pw_below_drewN | apply below_drew1 | refine below_set ?_ GE311.out | refine below_set ?_ GE318.out | refine below_set ?_ GE319.out | refine below_set ?_ GE320.out) | exact HB.out)) hb)
              clear BK311
              clear BK318
              clear BK319
              clear BK320
              clear HB
              have BK311 := n0_
              have BK318 := n1_
              have BK319 := n2_
              have BK320 := n3_
              have HB := n4_
              clear n0_ n1_ n2_ n3_ n4_
              (try clear hb)
              (try clear hb2)
              (try clear hk)
              (try clear hi)
              refine hK.out _ _ ⟨(blk_cell BK318.out 0).trans rfl, (blk_cell BK318.out 1).trans rfl, (blk_cell BK311.out 0).trans rfl, (blk_cell BK311.out 1).trans rfl, (blk_cell BK319.out 0).trans rfl, (blk_cell BK319.out 1).trans rfl, (blk_cell BK320.out 0).trans rfl, (blk_cell BK320.out 1).trans rfl⟩ (fun hHeld => ?_)
              clear hK K
              refine norm_ (a' := ?_) ?_ ?_
              rotate_left
              · show Act.put _ (some 33) _ = _
                simp only [Act.put, List.setIfInBounds_toArray, List.set_cons_zero, List.set_cons_succ, i64_w, i32_w]
                rfl
              refine pure_ (i := 11) (N := some 34) (v := ?_) (a' := ?_) #[true, true, true, true, true, true, true, true, true, true, true, true, false, false, false, false, false, false, false, false, false, false, false, false, false, false, false] rfl rfl (any_of HT_.out (by kernel_rfl)) (fun _ _ _ h => h) (Or.inl ⟨by rfl, ?_⟩) ?_ ?_
              rotate_left
              · intro w'
                go_simp
                with_reducible rfl
              rotate_left
              · simp only [Act.put, List.setIfInBounds_toArray, List.set_cons_zero, List.set_cons_succ, i64_w, i32_w]
                rfl
              refine pure_ (i := 12) (N := some 35) (v := ?_) (a' := ?_) #[true, true, true, true, true, true, true, true, true, true, true, true, true, false, false, false, false, false, false, false, false, false, false, false, false, false, false] rfl rfl (any_of HT_.out (by kernel_rfl)) (fun _ _ _ h => h) (Or.inl ⟨by rfl, ?_⟩) ?_ ?_
              rotate_left
              · intro w'
                go_simp
                with_reducible rfl
              rotate_left
              · simp only [Act.put, List.setIfInBounds_toArray, List.set_cons_zero, List.set_cons_succ, i64_w, i32_w]
                rfl
              refine pure_ (i := 13) (N := some 36) (v := ?_) (a' := ?_) #[true, true, true, true, true, true, true, true, true, true, true, true, true, true, false, false, false, false, false, false, false, false, false, false, false, false, false] rfl rfl (any_of HT_.out (by kernel_rfl)) (fun _ _ _ h => h) (Or.inl ⟨by rfl, ?_⟩) ?_ ?_
              rotate_left
              · intro w'
                go_simp
                with_reducible rfl
              rotate_left
              · simp only [Act.put, List.setIfInBounds_toArray, List.set_cons_zero, List.set_cons_succ, i64_w, i32_w]
                rfl
              refine take_ (i := 14) (N := some 37) (v := ?_) (a' := ?_) #[true, true, true, true, true, true, true, true, true, true, true, true, true, true, true, false, false, false, false, false, false, false, false, false, false, false, false] rfl rfl (take_ofW HT_.out HW_.out (by kernel_rfl)) (fun _ _ _ h => h) (Or.inl ⟨by rfl, ?_⟩) hHeld ?_ ?_
              rotate_left
              · rintro w' ⟨s0, s1, s2, s3, s4, s5, s6, s7⟩
                go_simp
                with_reducible rfl
              rotate_left
              · simp only [Act.put, List.setIfInBounds_toArray, List.set_cons_zero, List.set_cons_succ, i64_w, i32_w]
                rfl
              refine take_ (i := 15) (N := some 38) (v := ?_) (a' := ?_) #[true, true, true, true, true, true, true, true, true, true, true, true, true, true, true, true, false, false, false, false, false, false, false, false, false, false, false] rfl rfl (take_ofW HT_.out HW_.out (by kernel_rfl)) (fun _ _ _ h => h) (Or.inl ⟨by rfl, ?_⟩) hHeld ?_ ?_
              rotate_left
              · rintro w' ⟨s0, s1, s2, s3, s4, s5, s6, s7⟩
                go_simp
                with_reducible rfl
              rotate_left
              · simp only [Act.put, List.setIfInBounds_toArray, List.set_cons_zero, List.set_cons_succ, i64_w, i32_w]
                rfl
              refine one_ (i := 16) (N := some 39) #[true, true, true, true, true, true, true, true, true, true, true, true, true, true, true, true, true, false, false, false, false, false, false, false, false, false, false] rfl rfl (one_of HT_.out (by kernel_rfl)) (by decide) (fun K hK => ?_)
              refine goes_ Tryz.func40 (by kernel_rfl) rfl #[.agg #[.int .i64 a0_0, .int .i64 a0_1]] (by rfl) rfl rfl (by (try simp only [List.map_toArray, List.map_cons, List.map_nil]); first | done | rfl | (simp only [List.length_drop, List.length_take]; rfl)) ?_
              with_reducible refine (stencilref02_Round.calls a0_0 a0_1 t330 t331 _ ?side1 A35.out).mono ?_
              (case side1 => first | exact HLD | exact Laid.below HLD (by repeat (first | (with_reducible first | exact HB.out | apply below_alloc | apply pw_below_drewN | apply below_drew1 | refine below_set ?_ GE311.out | refine below_set ?_ GE318.out | refine below_set ?_ GE319.out | refine below_set ?_ GE320.out) | exact HB.out)))
              rintro e w66 ⟨rfl, hb⟩
              refine ⟨_, rfl, ?_⟩
              have n0_ := Aside0.mk (blk_below (g := gb311) (o := .cells #[.int .i64 a0_0, .int .i64 a0_1] 24 (0, 0)) (by (with_reducible repeat (first | refine blk_drewN ?_ _ | refine blk_drew ?_ | refine blk_alloc ?_ _)); exact BK311.out) hb)
              have n1_ := Aside0.mk (blk_below (g := gb318) (o := .cells #[.int .i64 t312, .int .i64 t313] 24 (0, 0)) (by (with_reducible repeat (first | refine blk_drewN ?_ _ | refine blk_drew ?_ | refine blk_alloc ?_ _)); exact BK318.out) hb)
              have n2_ := Aside0.mk (blk_below (g := gb319) (o := .cells #[.int .i64 t314, .int .i64 t315] 24 (0, 0)) (by (with_reducible repeat (first | refine blk_drewN ?_ _ | refine blk_drew ?_ | refine blk_alloc ?_ _)); exact BK319.out) hb)
              have n3_ := Aside0.mk (blk_below (g := gb320) (o := .cells #[.int .i64 t316, .int .i64 t317] 24 (0, 0)) (by (with_reducible repeat (first | refine blk_drewN ?_ _ | refine blk_drew ?_ | refine blk_alloc ?_ _)); exact BK320.out) hb)
              have n4_ := Aside0.mk (below_step (by repeat (first | (with_reducible first | exact HB.out | apply below_alloc | apply pw_below_drewN | apply below_drew1 | refine below_set ?_ GE311.out | refine below_set ?_ GE318.out | refine below_set ?_ GE319.out | refine below_set ?_ GE320.out) | exact HB.out)) hb)
              clear BK311
              clear BK318
              clear BK319
              clear BK320
              clear HB
              have BK311 := n0_
              have BK318 := n1_
              have BK319 := n2_
              have BK320 := n3_
              have HB := n4_
              clear n0_ n1_ n2_ n3_ n4_
              (try clear hb)
              (try clear hb2)
              (try clear hk)
              (try clear hi)
              refine hK.out _ _ ⟨(blk_cell BK318.out 0).trans rfl, (blk_cell BK318.out 1).trans rfl, (blk_cell BK311.out 0).trans rfl, (blk_cell BK311.out 1).trans rfl, (blk_cell BK319.out 0).trans rfl, (blk_cell BK319.out 1).trans rfl, (blk_cell BK320.out 0).trans rfl, (blk_cell BK320.out 1).trans rfl⟩ (fun hHeld => ?_)
              clear hK K
              refine norm_ (a' := ?_) ?_ ?_
              rotate_left
              · show Act.put _ (some 39) _ = _
                simp only [Act.put, List.setIfInBounds_toArray, List.set_cons_zero, List.set_cons_succ, i64_w, i32_w]
                rfl
              refine pure_ (i := 17) (N := some 40) (v := ?_) (a' := ?_) #[true, true, true, true, true, true, true, true, true, true, true, true, true, true, true, true, true, true, false, false, false, false, false, false, false, false, false] rfl rfl (any_of HT_.out (by kernel_rfl)) (fun _ _ _ h => h) (Or.inl ⟨by rfl, ?_⟩) ?_ ?_
              rotate_left
              · intro w'
                go_simp
                with_reducible rfl
              rotate_left
              · simp only [Act.put, List.setIfInBounds_toArray, List.set_cons_zero, List.set_cons_succ, i64_w, i32_w]
                rfl
              refine pure_ (i := 18) (N := some 41) (v := ?_) (a' := ?_) #[true, true, true, true, true, true, true, true, true, true, true, true, true, true, true, true, true, true, true, false, false, false, false, false, false, false, false] rfl rfl (any_of HT_.out (by kernel_rfl)) (fun _ _ _ h => h) (Or.inl ⟨by rfl, ?_⟩) ?_ ?_
              rotate_left
              · intro w'
                go_simp
                with_reducible rfl
              rotate_left
              · simp only [Act.put, List.setIfInBounds_toArray, List.set_cons_zero, List.set_cons_succ, i64_w, i32_w]
                rfl
              refine pure_ (i := 19) (N := some 42) (v := ?_) (a' := ?_) #[true, true, true, true, true, true, true, true, true, true, true, true, true, true, true, true, true, true, true, true, false, false, false, false, false, false, false] rfl rfl (any_of HT_.out (by kernel_rfl)) (fun _ _ _ h => h) (Or.inl ⟨by rfl, ?_⟩) ?_ ?_
              rotate_left
              · intro w'
                go_simp
                with_reducible rfl
              rotate_left
              · simp only [Act.put, List.setIfInBounds_toArray, List.set_cons_zero, List.set_cons_succ, i64_w, i32_w]
                rfl
              refine pure_ (i := 20) (N := some 43) (v := ?_) (a' := ?_) #[true, true, true, true, true, true, true, true, true, true, true, true, true, true, true, true, true, true, true, true, true, false, false, false, false, false, false] rfl rfl (any_of HT_.out (by kernel_rfl)) (fun _ _ _ h => h) (Or.inl ⟨by rfl, ?_⟩) ?_ ?_
              rotate_left
              · intro w'
                go_simp
                with_reducible rfl
              rotate_left
              · simp only [Act.put, List.setIfInBounds_toArray, List.set_cons_zero, List.set_cons_succ, i64_w, i32_w]
                rfl
              refine pure_ (i := 22) (N := some 45) (v := ?_) (a' := ?_) #[true, true, true, true, true, true, true, true, true, true, true, true, true, true, true, true, true, true, true, true, true, false, true, false, false, false, false] rfl rfl (any_of HT_.out (by kernel_rfl)) (fun _ _ _ h => h) (Or.inl ⟨by rfl, ?_⟩) ?_ ?_
              rotate_left
              · intro w'
                go_simp
                with_reducible rfl
              rotate_left
              · simp only [Act.put, List.setIfInBounds_toArray, List.set_cons_zero, List.set_cons_succ, i64_w, i32_w]
                rfl
              refine one_ (i := 21) (N := some 44) #[true, true, true, true, true, true, true, true, true, true, true, true, true, true, true, true, true, true, true, true, true, true, true, false, false, false, false] rfl rfl (one_of HT_.out (by kernel_rfl)) (by decide) (fun K hK => ?_)
              refine goes_ Tryz.func13 (by kernel_rfl) rfl #[.int .i64 a1] (by rfl) rfl rfl (by (try simp only [List.map_toArray, List.map_cons, List.map_nil]); first | done | rfl | (simp only [List.length_drop, List.length_take]; rfl)) ?_
              with_reducible refine (xnum_Int.calls a1 t332 t333 _ ?side1 A37.out).mono ?_
              (case side1 => first | exact HLD | exact Laid.below HLD (by repeat (first | (with_reducible first | exact HB.out | apply below_alloc | apply pw_below_drewN | apply below_drew1 | refine below_set ?_ GE311.out | refine below_set ?_ GE318.out | refine below_set ?_ GE319.out | refine below_set ?_ GE320.out) | exact HB.out)))
              rintro e w67 ⟨rfl, hb⟩
              refine ⟨_, rfl, ?_⟩
              have n0_ := Aside0.mk (blk_below (g := gb311) (o := .cells #[.int .i64 a0_0, .int .i64 a0_1] 24 (0, 0)) (by (with_reducible repeat (first | refine blk_drewN ?_ _ | refine blk_drew ?_ | refine blk_alloc ?_ _)); exact BK311.out) hb)
              have n1_ := Aside0.mk (blk_below (g := gb318) (o := .cells #[.int .i64 t312, .int .i64 t313] 24 (0, 0)) (by (with_reducible repeat (first | refine blk_drewN ?_ _ | refine blk_drew ?_ | refine blk_alloc ?_ _)); exact BK318.out) hb)
              have n2_ := Aside0.mk (blk_below (g := gb319) (o := .cells #[.int .i64 t314, .int .i64 t315] 24 (0, 0)) (by (with_reducible repeat (first | refine blk_drewN ?_ _ | refine blk_drew ?_ | refine blk_alloc ?_ _)); exact BK319.out) hb)
              have n3_ := Aside0.mk (blk_below (g := gb320) (o := .cells #[.int .i64 t316, .int .i64 t317] 24 (0, 0)) (by (with_reducible repeat (first | refine blk_drewN ?_ _ | refine blk_drew ?_ | refine blk_alloc ?_ _)); exact BK320.out) hb)
              have n4_ := Aside0.mk (below_step (by repeat (first | (with_reducible first | exact HB.out | apply below_alloc | apply pw_below_drewN | apply below_drew1 | refine below_set ?_ GE311.out | refine below_set ?_ GE318.out | refine below_set ?_ GE319.out | refine below_set ?_ GE320.out) | exact HB.out)) hb)
              clear BK311
              clear BK318
              clear BK319
              clear BK320
              clear HB
              have BK311 := n0_
              have BK318 := n1_
              have BK319 := n2_
              have BK320 := n3_
              have HB := n4_
              clear n0_ n1_ n2_ n3_ n4_
              (try clear hb)
              (try clear hb2)
              (try clear hk)
              (try clear hi)
              refine hK.out _ _ ⟨(blk_cell BK318.out 0).trans rfl, (blk_cell BK318.out 1).trans rfl, (blk_cell BK311.out 0).trans rfl, (blk_cell BK311.out 1).trans rfl, (blk_cell BK319.out 0).trans rfl, (blk_cell BK319.out 1).trans rfl, (blk_cell BK320.out 0).trans rfl, (blk_cell BK320.out 1).trans rfl⟩ (fun hHeld => ?_)
              clear hK K
              refine norm_ (a' := ?_) ?_ ?_
              rotate_left
              · show Act.put _ (some 44) _ = _
                simp only [Act.put, List.setIfInBounds_toArray, List.set_cons_zero, List.set_cons_succ, i64_w, i32_w]
                rfl
              refine one_ (i := 23) (N := some 46) #[true, true, true, true, true, true, true, true, true, true, true, true, true, true, true, true, true, true, true, true, true, true, true, true, false, false, false] rfl rfl (one_of HT_.out (by kernel_rfl)) (by decide) (fun K hK => ?_)
              refine goes_ Tryz.func41 (by kernel_rfl) rfl #[.int .i64 a1] (by rfl) rfl rfl (by (try simp only [List.map_toArray, List.map_cons, List.map_nil]); first | done | rfl | (simp only [List.length_drop, List.length_take]; rfl)) ?_
              with_reducible refine (stencilref02_Int.calls a1 t334 t335 _ ?side1 A38.out).mono ?_
              (case side1 => first | exact HLD | exact Laid.below HLD (by repeat (first | (with_reducible first | exact HB.out | apply below_alloc | apply pw_below_drewN | apply below_drew1 | refine below_set ?_ GE311.out | refine below_set ?_ GE318.out | refine below_set ?_ GE319.out | refine below_set ?_ GE320.out) | exact HB.out)))
              rintro e w68 ⟨rfl, hb⟩
              refine ⟨_, rfl, ?_⟩
              have n0_ := Aside0.mk (blk_below (g := gb311) (o := .cells #[.int .i64 a0_0, .int .i64 a0_1] 24 (0, 0)) (by (with_reducible repeat (first | refine blk_drewN ?_ _ | refine blk_drew ?_ | refine blk_alloc ?_ _)); exact BK311.out) hb)
              have n1_ := Aside0.mk (blk_below (g := gb318) (o := .cells #[.int .i64 t312, .int .i64 t313] 24 (0, 0)) (by (with_reducible repeat (first | refine blk_drewN ?_ _ | refine blk_drew ?_ | refine blk_alloc ?_ _)); exact BK318.out) hb)
              have n2_ := Aside0.mk (blk_below (g := gb319) (o := .cells #[.int .i64 t314, .int .i64 t315] 24 (0, 0)) (by (with_reducible repeat (first | refine blk_drewN ?_ _ | refine blk_drew ?_ | refine blk_alloc ?_ _)); exact BK319.out) hb)
              have n3_ := Aside0.mk (blk_below (g := gb320) (o := .cells #[.int .i64 t316, .int .i64 t317] 24 (0, 0)) (by (with_reducible repeat (first | refine blk_drewN ?_ _ | refine blk_drew ?_ | refine blk_alloc ?_ _)); exact BK320.out) hb)
              have n4_ := Aside0.mk (below_step (by repeat (first | (with_reducible first | exact HB.out | apply below_alloc | apply pw_below_drewN | apply below_drew1 | refine below_set ?_ GE311.out | refine below_set ?_ GE318.out | refine below_set ?_ GE319.out | refine below_set ?_ GE320.out) | exact HB.out)) hb)
              clear BK311
              clear BK318
              clear BK319
              clear BK320
              clear HB
              have BK311 := n0_
              have BK318 := n1_
              have BK319 := n2_
              have BK320 := n3_
              have HB := n4_
              clear n0_ n1_ n2_ n3_ n4_
              (try clear hb)
              (try clear hb2)
              (try clear hk)
              (try clear hi)
              refine hK.out _ _ ⟨(blk_cell BK318.out 0).trans rfl, (blk_cell BK318.out 1).trans rfl, (blk_cell BK311.out 0).trans rfl, (blk_cell BK311.out 1).trans rfl, (blk_cell BK319.out 0).trans rfl, (blk_cell BK319.out 1).trans rfl, (blk_cell BK320.out 0).trans rfl, (blk_cell BK320.out 1).trans rfl⟩ (fun hHeld => ?_)
              clear hK K
              refine norm_ (a' := ?_) ?_ ?_
              rotate_left
              · show Act.put _ (some 46) _ = _
                simp only [Act.put, List.setIfInBounds_toArray, List.set_cons_zero, List.set_cons_succ, i64_w, i32_w]
                rfl
              refine pure_ (i := 24) (N := some 47) (v := ?_) (a' := ?_) #[true, true, true, true, true, true, true, true, true, true, true, true, true, true, true, true, true, true, true, true, true, true, true, true, true, false, false] rfl rfl (any_of HT_.out (by kernel_rfl)) (fun _ _ _ h => h) (Or.inl ⟨by rfl, ?_⟩) ?_ ?_
              rotate_left
              · intro w'
                go_simp
                with_reducible rfl
              rotate_left
              · simp only [Act.put, List.setIfInBounds_toArray, List.set_cons_zero, List.set_cons_succ, i64_w, i32_w]
                rfl
              refine pure_ (i := 25) (N := some 48) (v := ?_) (a' := ?_) #[true, true, true, true, true, true, true, true, true, true, true, true, true, true, true, true, true, true, true, true, true, true, true, true, true, true, false] rfl rfl (any_of HT_.out (by kernel_rfl)) (fun _ _ _ h => h) (Or.inl ⟨by rfl, ?_⟩) ?_ ?_
              rotate_left
              · intro w'
                go_simp
                with_reducible rfl
              rotate_left
              · simp only [Act.put, List.setIfInBounds_toArray, List.set_cons_zero, List.set_cons_succ, i64_w, i32_w]
                rfl
              refine pure_ (i := 26) (N := some 4) (v := ?_) (a' := ?_) #[true, true, true, true, true, true, true, true, true, true, true, true, true, true, true, true, true, true, true, true, true, true, true, true, true, true, true] rfl rfl (any_of HT_.out (by kernel_rfl)) (fun _ _ _ h => h) (Or.inl ⟨by rfl, ?_⟩) ?_ ?_
              rotate_left
              · intro w'
                go_simp
                with_reducible rfl
              rotate_left
              · simp only [Act.put, List.setIfInBounds_toArray, List.set_cons_zero, List.set_cons_succ, i64_w, i32_w]
                rfl
              refine done_ (done_of HT_.out (by kernel_rfl)) ?_
              try go_wp2
              go_ret
              exact ⟨by first | rfl | (simp [errW_none, errW_some] <;> rfl) | (simp [*, errW_none, errW_some] <;> rfl), by repeat (first | (with_reducible first | exact HB.out | apply below_alloc | apply pw_below_drewN | apply below_drew1 | refine below_set ?_ GE311.out | refine below_set ?_ GE318.out | refine below_set ?_ GE319.out | refine below_set ?_ GE320.out) | exact HB.out)⟩
            · rw [if_neg c36] at H
              exact absurd H (by simp)
          · rw [if_neg c34] at H
            exact absurd H (by simp)
        · rw [if_neg c32] at H
          exact absurd H (by simp)
      · replace c30 := Bool.eq_false_iff.mpr c30
        subst c30
        have H1 : (none) = some r := by rw [if_neg (show ¬ (false = true) by decide)] at H; exact H
        clear H
        have H := H1
        clear H1
        exact absurd H (by simp)
    · replace c28 := Bool.eq_false_iff.mpr c28
      subst c28
      have H1 : ((stencillaw02_live.f k).bind fun t324 => (some t324)) = some r := by rw [if_neg (show ¬ (false = true) by decide)] at H; exact H
      clear H
      have H := H1
      clear H1
      replace H := Option.bind_eq_some_iff.mp H
      obtain ⟨t324, A690, H⟩ := H
      replace H : (some t324) = some r := H
      have A69 := Aside0.mk A690
      clear A690
      obtain rfl := Option.some.inj H
      go_enter Tryz.func7, Tryz.ntmps7
      try go_wp2_with (first | ((with_reducible refine gate_dst (N := 2) rfl ?_); refine box_event ?hg (N := 2) ?hd (cs := #[.int .i64 a0_0, .int .i64 a0_1]) (t := 24) ?hr ?_; (case hd => rfl); (case hg => rfl); (case hr => first | (go_simp; done) | (go_simp; rfl)); intro gb311 hg w70 hbox hb; have n0_ := Aside0.mk (below_step (by repeat (first | (with_reducible first | exact HB.out | apply below_alloc | apply pw_below_drewN | apply below_drew1) | exact HB.out)) hb); have n1_ := Aside0.mk (hbox); have n2_ := Aside0.mk ((by rw [hg]; exact (below_size (by repeat (first | (with_reducible first | exact HB.out | apply below_alloc | apply pw_below_drewN | apply below_drew1) | exact HB.out))) : w.heap.size ≤ gb311)); have n3_ := Aside0.mk ((by rw [hg]; exact (below_size (by repeat (first | (with_reducible first | exact HB.out | apply below_alloc | apply pw_below_drewN | apply below_drew1) | exact HB.out))) : w.heap.size ≤ gb311)); clear HB; have HB := n0_; have BK311 := n1_; have GW311 := n2_; have GE311 := n3_; clear n0_ n1_ n2_ n3_; clear hb hbox hg))
      have n0_ := Aside0.mk (blk_drew BK311.out)
      have n1_ := Aside0.mk (below_drew1 HB.out)
      clear BK311
      clear HB
      have BK311 := n0_
      have HB := n1_
      clear n0_ n1_
      refine start_ (n := 12) (S := fun w' => True) (ds := []) #[false, false, false, false, false, false, false, false, false, false, false, false] (by kernel_rfl) rfl rfl trivial (fun hHeld => ?_); refine with_tabW stencillaw02_XnumWhole.tab1 stencillaw02_XnumWhole.bits1 (fun HT_ HW_ => ?_)
      generalize w70.drew = w71 at BK311 HB hHeld ⊢
      refine inv_at [0, 1, 2, 3, 4, 5, 6, 7, 8, 9, 10, 11] (fun a0_ b a w' => ∃ (gb318 : Nat) (gb319 : Nat) (gb320 : Nat) (m6_ : Value) (m7_ : Value) (m8_ : Value), a = putSel a0_ b [(0, 8, .agg #[.int .i64 a0_0, .int .i64 a0_1]), (1, 9, .agg #[.int .i64 t312, .int .i64 t313]), (2, 10, .agg #[.int .i64 a0_0, .int .i64 a0_1]), (3, 11, .agg #[.int .i64 t314, .int .i64 t315]), (4, 12, .agg #[.int .i64 a0_0, .int .i64 a0_1]), (5, 13, .agg #[.int .i64 t316, .int .i64 t317]), (6, 5, m6_), (7, 6, m7_), (8, 7, m8_)] ∧ (w'.heap[gb311]? = some (.cells #[.int .i64 a0_0, .int .i64 a0_1] 24 (0, 0))) ∧ (Below w.heap.size w w') ∧ (b 6 = true → b 7 = true → gb319 ≠ gb318) ∧ (b 6 = true → b 7 = true → gb318 ≠ gb319) ∧ (b 6 = true → b 8 = true → gb320 ≠ gb318) ∧ (b 6 = true → b 8 = true → gb318 ≠ gb320) ∧ (b 7 = true → b 8 = true → gb320 ≠ gb319) ∧ (b 7 = true → b 8 = true → gb319 ≠ gb320) ∧ (b 6 = true → b 9 = false → w'.heap[gb318]? = some (.cells #[.int .i64 0, .int .i64 0] 24 (0, 0))) ∧ (b 6 = true → w.heap.size ≤ gb318) ∧ (b 6 = true → w.heap.size ≤ gb318) ∧ (b 6 = true → gb311 ≠ gb318) ∧ (b 6 = true → gb318 ≠ gb311) ∧ (b 7 = true → b 10 = false → w'.heap[gb319]? = some (.cells #[.int .i64 0, .int .i64 0] 24 (0, 0))) ∧ (b 7 = true → w.heap.size ≤ gb319) ∧ (b 7 = true → w.heap.size ≤ gb319) ∧ (b 7 = true → gb311 ≠ gb319) ∧ (b 7 = true → gb319 ≠ gb311) ∧ (b 8 = true → b 11 = false → w'.heap[gb320]? = some (.cells #[.int .i64 0, .int .i64 0] 24 (0, 0))) ∧ (b 8 = true → w.heap.size ≤ gb320) ∧ (b 8 = true → w.heap.size ≤ gb320) ∧ (b 8 = true → gb311 ≠ gb320) ∧ (b 8 = true → gb320 ≠ gb311) ∧ (b 9 = true → w'.heap[gb318]? = some (.cells #[.int .i64 t312, .int .i64 t313] 24 (0, 0))) ∧ (b 10 = true → w'.heap[gb319]? = some (.cells #[.int .i64 t314, .int .i64 t315] 24 (0, 0))) ∧ (b 11 = true → w'.heap[gb320]? = some (.cells #[.int .i64 t316, .int .i64 t317] 24 (0, 0))) ∧ (b 6 = true → (m6_ : Value) = .pointer (some ⟨gb318, 0, none⟩)) ∧ (b 7 = true → (m7_ : Value) = .pointer (some ⟨gb319, 0, none⟩)) ∧ (b 8 = true → (m8_ : Value) = .pointer (some ⟨gb320, 0, none⟩))) HT_.out HW_.out (by kernel_rfl) (by kernel_rfl) ?_ ?_ ?_
      · exact ⟨0, 0, 0, .bool false, .bool false, .bool false, by simp only [putSel, Bool.false_eq_true, if_false], BK311.out, HB.out, fun h_ => absurd h_ (by decide), fun h_ => absurd h_ (by decide), fun h_ => absurd h_ (by decide), fun h_ => absurd h_ (by decide), fun h_ => absurd h_ (by decide), fun h_ => absurd h_ (by decide), fun h_ => absurd h_ (by decide), fun h_ => absurd h_ (by decide), fun h_ => absurd h_ (by decide), fun h_ => absurd h_ (by decide), fun h_ => absurd h_ (by decide), fun h_ => absurd h_ (by decide), fun h_ => absurd h_ (by decide), fun h_ => absurd h_ (by decide), fun h_ => absurd h_ (by decide), fun h_ => absurd h_ (by decide), fun h_ => absurd h_ (by decide), fun h_ => absurd h_ (by decide), fun h_ => absurd h_ (by decide), fun h_ => absurd h_ (by decide), fun h_ => absurd h_ (by decide), fun h_ => absurd h_ (by decide), fun h_ => absurd h_ (by decide), fun h_ => absurd h_ (by decide), fun h_ => absurd h_ (by decide), fun h_ => absurd h_ (by decide), fun h_ => absurd h_ (by decide)⟩
      · skip
        clear BK311 HB
        refine steps_cons ?_ ?_
        · rintro b a w' ⟨gb318, gb319, gb320, m6_, m7_, m8_, ha, Q_BK311, Q_HB, Q_NB319_318, Q_NB318_319, Q_NB320_318, Q_NB318_320, Q_NB320_319, Q_NB319_320, Q_BK318, Q_GW318, Q_GE318, Q_NB311_318, Q_NB318_311, Q_BK319, Q_GW319, Q_GE319, Q_NB311_319, Q_NB319_311, Q_BK320, Q_GW320, Q_GE320, Q_NB311_320, Q_NB320_311, Q_BK318_e9, Q_BK319_e10, Q_BK320_e11, Q_X6_, Q_X7_, Q_X8_⟩ hb_ hon hoff
          refine ⟨_, rfl, fun K hK => ?_⟩
          have e2 : a.tmps[2]? = some (.pointer (some ⟨gb311, 0, none⟩)) := by rw [ha]; exact (putSel_off rfl).trans rfl
          replace ha := Aside0.mk ha
          have BK311 := Aside0.mk Q_BK311
          have HB := Aside0.mk Q_HB
          have hc0_ : w'.cell? ⟨gb311, 0, none⟩ = some (.int .i64 a0_0) := (blk_cell BK311.out 0).trans rfl
          have hc1_ : w'.cell? ⟨gb311, 1, none⟩ = some (.int .i64 a0_1) := (blk_cell BK311.out 1).trans rfl
          refine value_ (w1 := w') (v := .agg #[.int .i64 a0_0, .int .i64 a0_1]) (by rfl) rfl ?_ ?_
          · go_simp
            (try simp only [i64_w])
            try rfl
          refine hK.out _ _ ⟨gb318, gb319, gb320, m6_, m7_, m8_, (by rw [ha.out]; exact putSel_upk 0 hb_ rfl rfl rfl), Q_BK311, Q_HB, Q_NB319_318, Q_NB318_319, Q_NB320_318, Q_NB318_320, Q_NB320_319, Q_NB319_320, Q_BK318, Q_GW318, Q_GE318, Q_NB311_318, Q_NB318_311, Q_BK319, Q_GW319, Q_GE319, Q_NB311_319, Q_NB319_311, Q_BK320, Q_GW320, Q_GE320, Q_NB311_320, Q_NB320_311, fun h0_ => absurd ((hoff 9 (by kernel_rfl)).symm.trans h0_) (by decide), fun h0_ => absurd ((hoff 10 (by kernel_rfl)).symm.trans h0_) (by decide), fun h0_ => absurd ((hoff 11 (by kernel_rfl)).symm.trans h0_) (by decide), Q_X6_, Q_X7_, Q_X8_⟩
        refine steps_cons ?_ ?_
        · rintro b a w' ⟨gb318, gb319, gb320, m6_, m7_, m8_, ha, Q_BK311, Q_HB, Q_NB319_318, Q_NB318_319, Q_NB320_318, Q_NB318_320, Q_NB320_319, Q_NB319_320, Q_BK318, Q_GW318, Q_GE318, Q_NB311_318, Q_NB318_311, Q_BK319, Q_GW319, Q_GE319, Q_NB311_319, Q_NB319_311, Q_BK320, Q_GW320, Q_GE320, Q_NB311_320, Q_NB320_311, Q_BK318_e9, Q_BK319_e10, Q_BK320_e11, Q_X6_, Q_X7_, Q_X8_⟩ hb_ hon hoff
          refine ⟨_, rfl, fun K hK => ?_⟩
          have e8 : a.tmps[8]? = some (.agg #[.int .i64 a0_0, .int .i64 a0_1]) := by rw [ha]; exact putSel_on (e := (0, 8, .agg #[.int .i64 a0_0, .int .i64 a0_1])) 0 rfl rfl (hon 0 (by kernel_rfl)) rfl
          replace ha := Aside0.mk ha
          have BK311 := Aside0.mk Q_BK311
          have HB := Aside0.mk Q_HB
          refine goes_ Tryz.func35 (by kernel_rfl) rfl #[.agg #[.int .i64 a0_0, .int .i64 a0_1]] (by rfl) rfl rfl (by first | (simp only [List.map_toArray, List.map_cons, List.map_nil, Act.eval, Array.getD_eq_getD_getElem?, Option.getD_some, e8]; done) | (simp only [List.map_toArray, List.map_cons, List.map_nil, Act.eval, Array.getD_eq_getD_getElem?, Option.getD_some, e8]; rfl)) ?_
          with_reducible refine (xnum_Floor.calls a0_0 a0_1 t312 t313 _ ?side1 A3.out).mono ?_
          (case side1 => first | exact HLD | exact Laid.below HLD (by repeat (first | (with_reducible first | exact HB.out | apply below_alloc | apply pw_below_drewN | apply below_drew1 | refine below_set ?_ GE311.out) | exact HB.out)))
          rintro e w72 ⟨rfl, hb⟩
          refine ⟨_, rfl, ?_⟩
          have n0_ := Aside0.mk (blk_below (g := gb311) (o := .cells #[.int .i64 a0_0, .int .i64 a0_1] 24 (0, 0)) (by (with_reducible repeat (first | refine blk_drewN ?_ _ | refine blk_drew ?_ | refine blk_alloc ?_ _)); exact BK311.out) hb)
          have n1_ := Aside0.mk (below_step (by repeat (first | (with_reducible first | exact HB.out | apply below_alloc | apply pw_below_drewN | apply below_drew1 | refine below_set ?_ GE311.out) | exact HB.out)) hb)
          have z_BK318 := fun (h0_ : b 6 = true) (h1_ : b 9 = false) => (show w72.heap[gb318]? = some (.cells #[.int .i64 0, .int .i64 0] 24 (0, 0)) from by first | exact (blk_below (g := gb318) (o := .cells #[.int .i64 0, .int .i64 0] 24 (0, 0)) (by (with_reducible repeat (first | refine blk_drewN ?_ _ | refine blk_drew ?_ | refine blk_alloc ?_ _)); exact (Q_BK318 h0_ h1_)) hb))
          have z_BK319 := fun (h0_ : b 7 = true) (h1_ : b 10 = false) => (show w72.heap[gb319]? = some (.cells #[.int .i64 0, .int .i64 0] 24 (0, 0)) from by first | exact (blk_below (g := gb319) (o := .cells #[.int .i64 0, .int .i64 0] 24 (0, 0)) (by (with_reducible repeat (first | refine blk_drewN ?_ _ | refine blk_drew ?_ | refine blk_alloc ?_ _)); exact (Q_BK319 h0_ h1_)) hb))
          have z_BK320 := fun (h0_ : b 8 = true) (h1_ : b 11 = false) => (show w72.heap[gb320]? = some (.cells #[.int .i64 0, .int .i64 0] 24 (0, 0)) from by first | exact (blk_below (g := gb320) (o := .cells #[.int .i64 0, .int .i64 0] 24 (0, 0)) (by (with_reducible repeat (first | refine blk_drewN ?_ _ | refine blk_drew ?_ | refine blk_alloc ?_ _)); exact (Q_BK320 h0_ h1_)) hb))
          clear BK311
          clear HB
          have BK311 := n0_
          have HB := n1_
          clear n0_ n1_
          (try clear hb)
          (try clear hb2)
          (try clear hk)
          (try clear hi)
          refine hK.out _ _ ⟨gb318, gb319, gb320, m6_, m7_, m8_, (by rw [ha.out]; exact putSel_upk 1 hb_ rfl rfl rfl), (by (with_reducible repeat (first | refine blk_drewN ?_ _ | refine blk_drew ?_ | refine blk_alloc ?_ _)); exact BK311.out), (by repeat (first | (with_reducible first | exact HB.out | apply below_alloc | apply pw_below_drewN | apply below_drew1 | refine below_set ?_ GE311.out) | exact HB.out)), Q_NB319_318, Q_NB318_319, Q_NB320_318, Q_NB318_320, Q_NB320_319, Q_NB319_320, z_BK318, Q_GW318, Q_GE318, Q_NB311_318, Q_NB318_311, z_BK319, Q_GW319, Q_GE319, Q_NB311_319, Q_NB319_311, z_BK320, Q_GW320, Q_GE320, Q_NB311_320, Q_NB320_311, fun h0_ => absurd ((hoff 9 (by kernel_rfl)).symm.trans h0_) (by decide), fun h0_ => absurd ((hoff 10 (by kernel_rfl)).symm.trans h0_) (by decide), fun h0_ => absurd ((hoff 11 (by kernel_rfl)).symm.trans h0_) (by decide), Q_X6_, Q_X7_, Q_X8_⟩
        refine steps_cons ?_ ?_
        · rintro b a w' ⟨gb318, gb319, gb320, m6_, m7_, m8_, ha, Q_BK311, Q_HB, Q_NB319_318, Q_NB318_319, Q_NB320_318, Q_NB318_320, Q_NB320_319, Q_NB319_320, Q_BK318, Q_GW318, Q_GE318, Q_NB311_318, Q_NB318_311, Q_BK319, Q_GW319, Q_GE319, Q_NB311_319, Q_NB319_311, Q_BK320, Q_GW320, Q_GE320, Q_NB311_320, Q_NB320_311, Q_BK318_e9, Q_BK319_e10, Q_BK320_e11, Q_X6_, Q_X7_, Q_X8_⟩ hb_ hon hoff
          refine ⟨_, rfl, fun K hK => ?_⟩
          have e2 : a.tmps[2]? = some (.pointer (some ⟨gb311, 0, none⟩)) := by rw [ha]; exact (putSel_off rfl).trans rfl
          replace ha := Aside0.mk ha
          have BK311 := Aside0.mk Q_BK311
          have HB := Aside0.mk Q_HB
          have hc0_ : w'.cell? ⟨gb311, 0, none⟩ = some (.int .i64 a0_0) := (blk_cell BK311.out 0).trans rfl
          have hc1_ : w'.cell? ⟨gb311, 1, none⟩ = some (.int .i64 a0_1) := (blk_cell BK311.out 1).trans rfl
          refine value_ (w1 := w') (v := .agg #[.int .i64 a0_0, .int .i64 a0_1]) (by rfl) rfl ?_ ?_
          · go_simp
            (try simp only [i64_w])
            try rfl
          refine hK.out _ _ ⟨gb318, gb319, gb320, m6_, m7_, m8_, (by rw [ha.out]; exact putSel_upk 2 hb_ rfl rfl rfl), Q_BK311, Q_HB, Q_NB319_318, Q_NB318_319, Q_NB320_318, Q_NB318_320, Q_NB320_319, Q_NB319_320, Q_BK318, Q_GW318, Q_GE318, Q_NB311_318, Q_NB318_311, Q_BK319, Q_GW319, Q_GE319, Q_NB311_319, Q_NB319_311, Q_BK320, Q_GW320, Q_GE320, Q_NB311_320, Q_NB320_311, fun h0_ => absurd ((hoff 9 (by kernel_rfl)).symm.trans h0_) (by decide), fun h0_ => absurd ((hoff 10 (by kernel_rfl)).symm.trans h0_) (by decide), fun h0_ => absurd ((hoff 11 (by kernel_rfl)).symm.trans h0_) (by decide), Q_X6_, Q_X7_, Q_X8_⟩
        refine steps_cons ?_ ?_
        · rintro b a w' ⟨gb318, gb319, gb320, m6_, m7_, m8_, ha, Q_BK311, Q_HB, Q_NB319_318, Q_NB318_319, Q_NB320_318, Q_NB318_320, Q_NB320_319, Q_NB319_320, Q_BK318, Q_GW318, Q_GE318, Q_NB311_318, Q_NB318_311, Q_BK319, Q_GW319, Q_GE319, Q_NB311_319, Q_NB319_311, Q_BK320, Q_GW320, Q_GE320, Q_NB311_320, Q_NB320_311, Q_BK318_e9, Q_BK319_e10, Q_BK320_e11, Q_X6_, Q_X7_, Q_X8_⟩ hb_ hon hoff
          refine ⟨_, rfl, fun K hK => ?_⟩
          have e10 : a.tmps[10]? = some (.agg #[.int .i64 a0_0, .int .i64 a0_1]) := by rw [ha]; exact putSel_on (e := (2, 10, .agg #[.int .i64 a0_0, .int .i64 a0_1])) 2 rfl rfl (hon 2 (by kernel_rfl)) rfl
          replace ha := Aside0.mk ha
          have BK311 := Aside0.mk Q_BK311
          have HB := Aside0.mk Q_HB
          refine goes_ Tryz.func36 (by kernel_rfl) rfl #[.agg #[.int .i64 a0_0, .int .i64 a0_1]] (by rfl) rfl rfl (by first | (simp only [List.map_toArray, List.map_cons, List.map_nil, Act.eval, Array.getD_eq_getD_getElem?, Option.getD_some, e10]; done) | (simp only [List.map_toArray, List.map_cons, List.map_nil, Act.eval, Array.getD_eq_getD_getElem?, Option.getD_some, e10]; rfl)) ?_
          with_reducible refine (xnum_Ceiling.calls k a0_0 a0_1 t314 t315 _ ?side1 A4.out).mono ?_
          (case side1 => first | exact HLD | exact Laid.below HLD (by repeat (first | (with_reducible first | exact HB.out | apply below_alloc | apply pw_below_drewN | apply below_drew1 | refine below_set ?_ GE311.out) | exact HB.out)))
          rintro e w74 ⟨rfl, hb⟩
          refine ⟨_, rfl, ?_⟩
          have n0_ := Aside0.mk (blk_below (g := gb311) (o := .cells #[.int .i64 a0_0, .int .i64 a0_1] 24 (0, 0)) (by (with_reducible repeat (first | refine blk_drewN ?_ _ | refine blk_drew ?_ | refine blk_alloc ?_ _)); exact BK311.out) hb)
          have n1_ := Aside0.mk (below_step (by repeat (first | (with_reducible first | exact HB.out | apply below_alloc | apply pw_below_drewN | apply below_drew1 | refine below_set ?_ GE311.out) | exact HB.out)) hb)
          have z_BK318 := fun (h0_ : b 6 = true) (h1_ : b 9 = false) => (show w74.heap[gb318]? = some (.cells #[.int .i64 0, .int .i64 0] 24 (0, 0)) from by first | exact (blk_below (g := gb318) (o := .cells #[.int .i64 0, .int .i64 0] 24 (0, 0)) (by (with_reducible repeat (first | refine blk_drewN ?_ _ | refine blk_drew ?_ | refine blk_alloc ?_ _)); exact (Q_BK318 h0_ h1_)) hb))
          have z_BK319 := fun (h0_ : b 7 = true) (h1_ : b 10 = false) => (show w74.heap[gb319]? = some (.cells #[.int .i64 0, .int .i64 0] 24 (0, 0)) from by first | exact (blk_below (g := gb319) (o := .cells #[.int .i64 0, .int .i64 0] 24 (0, 0)) (by (with_reducible repeat (first | refine blk_drewN ?_ _ | refine blk_drew ?_ | refine blk_alloc ?_ _)); exact (Q_BK319 h0_ h1_)) hb))
          have z_BK320 := fun (h0_ : b 8 = true) (h1_ : b 11 = false) => (show w74.heap[gb320]? = some (.cells #[.int .i64 0, .int .i64 0] 24 (0, 0)) from by first | exact (blk_below (g := gb320) (o := .cells #[.int .i64 0, .int .i64 0] 24 (0, 0)) (by (with_reducible repeat (first | refine blk_drewN ?_ _ | refine blk_drew ?_ | refine blk_alloc ?_ _)); exact (Q_BK320 h0_ h1_)) hb))
          clear BK311
          clear HB
          have BK311 := n0_
          have HB := n1_
          clear n0_ n1_
          (try clear hb)
          (try clear hb2)
          (try clear hk)
          (try clear hi)
          refine hK.out _ _ ⟨gb318, gb319, gb320, m6_, m7_, m8_, (by rw [ha.out]; exact putSel_upk 3 hb_ rfl rfl rfl), (by (with_reducible repeat (first | refine blk_drewN ?_ _ | refine blk_drew ?_ | refine blk_alloc ?_ _)); exact BK311.out), (by repeat (first | (with_reducible first | exact HB.out | apply below_alloc | apply pw_below_drewN | apply below_drew1 | refine below_set ?_ GE311.out) | exact HB.out)), Q_NB319_318, Q_NB318_319, Q_NB320_318, Q_NB318_320, Q_NB320_319, Q_NB319_320, z_BK318, Q_GW318, Q_GE318, Q_NB311_318, Q_NB318_311, z_BK319, Q_GW319, Q_GE319, Q_NB311_319, Q_NB319_311, z_BK320, Q_GW320, Q_GE320, Q_NB311_320, Q_NB320_311, fun h0_ => absurd ((hoff 9 (by kernel_rfl)).symm.trans h0_) (by decide), fun h0_ => absurd ((hoff 10 (by kernel_rfl)).symm.trans h0_) (by decide), fun h0_ => absurd ((hoff 11 (by kernel_rfl)).symm.trans h0_) (by decide), Q_X6_, Q_X7_, Q_X8_⟩
        refine steps_cons ?_ ?_
        · rintro b a w' ⟨gb318, gb319, gb320, m6_, m7_, m8_, ha, Q_BK311, Q_HB, Q_NB319_318, Q_NB318_319, Q_NB320_318, Q_NB318_320, Q_NB320_319, Q_NB319_320, Q_BK318, Q_GW318, Q_GE318, Q_NB311_318, Q_NB318_311, Q_BK319, Q_GW319, Q_GE319, Q_NB311_319, Q_NB319_311, Q_BK320, Q_GW320, Q_GE320, Q_NB311_320, Q_NB320_311, Q_BK318_e9, Q_BK319_e10, Q_BK320_e11, Q_X6_, Q_X7_, Q_X8_⟩ hb_ hon hoff
          refine ⟨_, rfl, fun K hK => ?_⟩
          have e2 : a.tmps[2]? = some (.pointer (some ⟨gb311, 0, none⟩)) := by rw [ha]; exact (putSel_off rfl).trans rfl
          replace ha := Aside0.mk ha
          have BK311 := Aside0.mk Q_BK311
          have HB := Aside0.mk Q_HB
          have hc0_ : w'.cell? ⟨gb311, 0, none⟩ = some (.int .i64 a0_0) := (blk_cell BK311.out 0).trans rfl
          have hc1_ : w'.cell? ⟨gb311, 1, none⟩ = some (.int .i64 a0_1) := (blk_cell BK311.out 1).trans rfl
          refine value_ (w1 := w') (v := .agg #[.int .i64 a0_0, .int .i64 a0_1]) (by rfl) rfl ?_ ?_
          · go_simp
            (try simp only [i64_w])
            try rfl
          refine hK.out _ _ ⟨gb318, gb319, gb320, m6_, m7_, m8_, (by rw [ha.out]; exact putSel_upk 4 hb_ rfl rfl rfl), Q_BK311, Q_HB, Q_NB319_318, Q_NB318_319, Q_NB320_318, Q_NB318_320, Q_NB320_319, Q_NB319_320, Q_BK318, Q_GW318, Q_GE318, Q_NB311_318, Q_NB318_311, Q_BK319, Q_GW319, Q_GE319, Q_NB311_319, Q_NB319_311, Q_BK320, Q_GW320, Q_GE320, Q_NB311_320, Q_NB320_311, fun h0_ => absurd ((hoff 9 (by kernel_rfl)).symm.trans h0_) (by decide), fun h0_ => absurd ((hoff 10 (by kernel_rfl)).symm.trans h0_) (by decide), fun h0_ => absurd ((hoff 11 (by kernel_rfl)).symm.trans h0_) (by decide), Q_X6_, Q_X7_, Q_X8_⟩
        refine steps_cons ?_ ?_
        · rintro b a w' ⟨gb318, gb319, gb320, m6_, m7_, m8_, ha, Q_BK311, Q_HB, Q_NB319_318, Q_NB318_319, Q_NB320_318, Q_NB318_320, Q_NB320_319, Q_NB319_320, Q_BK318, Q_GW318, Q_GE318, Q_NB311_318, Q_NB318_311, Q_BK319, Q_GW319, Q_GE319, Q_NB311_319, Q_NB319_311, Q_BK320, Q_GW320, Q_GE320, Q_NB311_320, Q_NB320_311, Q_BK318_e9, Q_BK319_e10, Q_BK320_e11, Q_X6_, Q_X7_, Q_X8_⟩ hb_ hon hoff
          refine ⟨_, rfl, fun K hK => ?_⟩
          have e12 : a.tmps[12]? = some (.agg #[.int .i64 a0_0, .int .i64 a0_1]) := by rw [ha]; exact putSel_on (e := (4, 12, .agg #[.int .i64 a0_0, .int .i64 a0_1])) 4 rfl rfl (hon 4 (by kernel_rfl)) rfl
          replace ha := Aside0.mk ha
          have BK311 := Aside0.mk Q_BK311
          have HB := Aside0.mk Q_HB
          refine goes_ Tryz.func37 (by kernel_rfl) rfl #[.agg #[.int .i64 a0_0, .int .i64 a0_1]] (by rfl) rfl rfl (by first | (simp only [List.map_toArray, List.map_cons, List.map_nil, Act.eval, Array.getD_eq_getD_getElem?, Option.getD_some, e12]; done) | (simp only [List.map_toArray, List.map_cons, List.map_nil, Act.eval, Array.getD_eq_getD_getElem?, Option.getD_some, e12]; rfl)) ?_
          with_reducible refine (xnum_Round.calls a0_0 a0_1 t316 t317 _ ?side1 A5.out).mono ?_
          (case side1 => first | exact HLD | exact Laid.below HLD (by repeat (first | (with_reducible first | exact HB.out | apply below_alloc | apply pw_below_drewN | apply below_drew1 | refine below_set ?_ GE311.out) | exact HB.out)))
          rintro e w75 ⟨rfl, hb⟩
          refine ⟨_, rfl, ?_⟩
          have n0_ := Aside0.mk (blk_below (g := gb311) (o := .cells #[.int .i64 a0_0, .int .i64 a0_1] 24 (0, 0)) (by (with_reducible repeat (first | refine blk_drewN ?_ _ | refine blk_drew ?_ | refine blk_alloc ?_ _)); exact BK311.out) hb)
          have n1_ := Aside0.mk (below_step (by repeat (first | (with_reducible first | exact HB.out | apply below_alloc | apply pw_below_drewN | apply below_drew1 | refine below_set ?_ GE311.out) | exact HB.out)) hb)
          have z_BK318 := fun (h0_ : b 6 = true) (h1_ : b 9 = false) => (show w75.heap[gb318]? = some (.cells #[.int .i64 0, .int .i64 0] 24 (0, 0)) from by first | exact (blk_below (g := gb318) (o := .cells #[.int .i64 0, .int .i64 0] 24 (0, 0)) (by (with_reducible repeat (first | refine blk_drewN ?_ _ | refine blk_drew ?_ | refine blk_alloc ?_ _)); exact (Q_BK318 h0_ h1_)) hb))
          have z_BK319 := fun (h0_ : b 7 = true) (h1_ : b 10 = false) => (show w75.heap[gb319]? = some (.cells #[.int .i64 0, .int .i64 0] 24 (0, 0)) from by first | exact (blk_below (g := gb319) (o := .cells #[.int .i64 0, .int .i64 0] 24 (0, 0)) (by (with_reducible repeat (first | refine blk_drewN ?_ _ | refine blk_drew ?_ | refine blk_alloc ?_ _)); exact (Q_BK319 h0_ h1_)) hb))
          have z_BK320 := fun (h0_ : b 8 = true) (h1_ : b 11 = false) => (show w75.heap[gb320]? = some (.cells #[.int .i64 0, .int .i64 0] 24 (0, 0)) from by first | exact (blk_below (g := gb320) (o := .cells #[.int .i64 0, .int .i64 0] 24 (0, 0)) (by (with_reducible repeat (first | refine blk_drewN ?_ _ | refine blk_drew ?_ | refine blk_alloc ?_ _)); exact (Q_BK320 h0_ h1_)) hb))
          clear BK311
          clear HB
          have BK311 := n0_
          have HB := n1_
          clear n0_ n1_
          (try clear hb)
          (try clear hb2)
          (try clear hk)
          (try clear hi)
          refine hK.out _ _ ⟨gb318, gb319, gb320, m6_, m7_, m8_, (by rw [ha.out]; exact putSel_upk 5 hb_ rfl rfl rfl), (by (with_reducible repeat (first | refine blk_drewN ?_ _ | refine blk_drew ?_ | refine blk_alloc ?_ _)); exact BK311.out), (by repeat (first | (with_reducible first | exact HB.out | apply below_alloc | apply pw_below_drewN | apply below_drew1 | refine below_set ?_ GE311.out) | exact HB.out)), Q_NB319_318, Q_NB318_319, Q_NB320_318, Q_NB318_320, Q_NB320_319, Q_NB319_320, z_BK318, Q_GW318, Q_GE318, Q_NB311_318, Q_NB318_311, z_BK319, Q_GW319, Q_GE319, Q_NB311_319, Q_NB319_311, z_BK320, Q_GW320, Q_GE320, Q_NB311_320, Q_NB320_311, fun h0_ => absurd ((hoff 9 (by kernel_rfl)).symm.trans h0_) (by decide), fun h0_ => absurd ((hoff 10 (by kernel_rfl)).symm.trans h0_) (by decide), fun h0_ => absurd ((hoff 11 (by kernel_rfl)).symm.trans h0_) (by decide), Q_X6_, Q_X7_, Q_X8_⟩
        refine steps_cons ?_ ?_
        · rintro b a w' ⟨gb318, gb319, gb320, m6_, m7_, m8_, ha, Q_BK311, Q_HB, Q_NB319_318, Q_NB318_319, Q_NB320_318, Q_NB318_320, Q_NB320_319, Q_NB319_320, Q_BK318, Q_GW318, Q_GE318, Q_NB311_318, Q_NB318_311, Q_BK319, Q_GW319, Q_GE319, Q_NB311_319, Q_NB319_311, Q_BK320, Q_GW320, Q_GE320, Q_NB311_320, Q_NB320_311, Q_BK318_e9, Q_BK319_e10, Q_BK320_e11, Q_X6_, Q_X7_, Q_X8_⟩ hb_ hon hoff
          refine ⟨_, rfl, fun K hK => ?_⟩
          replace ha := Aside0.mk ha
          have BK311 := Aside0.mk Q_BK311
          have HB := Aside0.mk Q_HB
          refine box_step ?hg (N := 5) ?hd (cs := #[.int .i64 0, .int .i64 0]) (t := 24) ?hr ?_; (case hd => rfl); (case hg => rfl); (case hr => first | (go_simp; done) | (go_simp; rfl))
          intro gb318 hg w72 hbox hb
          have n0_ := Aside0.mk (blk_below (g := gb311) (o := .cells #[.int .i64 a0_0, .int .i64 a0_1] 24 (0, 0)) (by (with_reducible repeat (first | refine blk_drewN ?_ _ | refine blk_drew ?_ | refine blk_alloc ?_ _)); exact BK311.out) hb)
          have n1_ := Aside0.mk (below_step (by repeat (first | (with_reducible first | exact HB.out | apply below_alloc | apply pw_below_drewN | apply below_drew1 | refine below_set ?_ GE311.out) | exact HB.out)) hb)
          have n2_ := Aside0.mk (hbox)
          have n3_ := Aside0.mk ((by rw [hg]; exact (below_size (by repeat (first | (with_reducible first | exact HB.out | apply below_alloc | apply pw_below_drewN | apply below_drew1 | refine below_set ?_ GE311.out) | exact HB.out))) : w.heap.size ≤ gb318))
          have n4_ := Aside0.mk ((by rw [hg]; exact (below_size (by repeat (first | (with_reducible first | exact HB.out | apply below_alloc | apply pw_below_drewN | apply below_drew1 | refine below_set ?_ GE311.out) | exact HB.out))) : w.heap.size ≤ gb318))
          have n5_ := Aside0.mk ((by rw [hg]; exact Nat.ne_of_lt (blk_lt (g := gb311) (o := .cells #[.int .i64 a0_0, .int .i64 a0_1] 24 (0, 0)) (by (with_reducible repeat (first | refine blk_drewN ?_ _ | refine blk_drew ?_ | refine blk_alloc ?_ _)); exact BK311.out)) : gb311 ≠ gb318))
          have n6_ := Aside0.mk ((by rw [hg]; exact Nat.ne_of_gt (blk_lt (g := gb311) (o := .cells #[.int .i64 a0_0, .int .i64 a0_1] 24 (0, 0)) (by (with_reducible repeat (first | refine blk_drewN ?_ _ | refine blk_drew ?_ | refine blk_alloc ?_ _)); exact BK311.out)) : gb318 ≠ gb311))
          have z_NB319_318 := fun (h0_ : up b 6 6 = true) (h1_ : up b 6 7 = true) => (show gb319 ≠ gb318 from ((by rw [hg]; exact Nat.ne_of_lt (blk_lt (g := gb319) (o := .cells #[.int .i64 0, .int .i64 0] 24 (0, 0)) (by (with_reducible repeat (first | refine blk_drewN ?_ _ | refine blk_drew ?_ | refine blk_alloc ?_ _)); exact (Q_BK319 (show b 7 = true from h1_) (hoff 10 (by kernel_rfl))))) : gb319 ≠ gb318)))
          have z_NB318_319 := fun (h0_ : up b 6 6 = true) (h1_ : up b 6 7 = true) => (show gb318 ≠ gb319 from ((by rw [hg]; exact Nat.ne_of_gt (blk_lt (g := gb319) (o := .cells #[.int .i64 0, .int .i64 0] 24 (0, 0)) (by (with_reducible repeat (first | refine blk_drewN ?_ _ | refine blk_drew ?_ | refine blk_alloc ?_ _)); exact (Q_BK319 (show b 7 = true from h1_) (hoff 10 (by kernel_rfl))))) : gb318 ≠ gb319)))
          have z_NB320_318 := fun (h0_ : up b 6 6 = true) (h1_ : up b 6 8 = true) => (show gb320 ≠ gb318 from ((by rw [hg]; exact Nat.ne_of_lt (blk_lt (g := gb320) (o := .cells #[.int .i64 0, .int .i64 0] 24 (0, 0)) (by (with_reducible repeat (first | refine blk_drewN ?_ _ | refine blk_drew ?_ | refine blk_alloc ?_ _)); exact (Q_BK320 (show b 8 = true from h1_) (hoff 11 (by kernel_rfl))))) : gb320 ≠ gb318)))
          have z_NB318_320 := fun (h0_ : up b 6 6 = true) (h1_ : up b 6 8 = true) => (show gb318 ≠ gb320 from ((by rw [hg]; exact Nat.ne_of_gt (blk_lt (g := gb320) (o := .cells #[.int .i64 0, .int .i64 0] 24 (0, 0)) (by (with_reducible repeat (first | refine blk_drewN ?_ _ | refine blk_drew ?_ | refine blk_alloc ?_ _)); exact (Q_BK320 (show b 8 = true from h1_) (hoff 11 (by kernel_rfl))))) : gb318 ≠ gb320)))
          have z_BK319 := fun (h0_ : b 7 = true) (h1_ : b 10 = false) => (show w72.heap[gb319]? = some (.cells #[.int .i64 0, .int .i64 0] 24 (0, 0)) from by first | exact (blk_below (g := gb319) (o := .cells #[.int .i64 0, .int .i64 0] 24 (0, 0)) (by (with_reducible repeat (first | refine blk_drewN ?_ _ | refine blk_drew ?_ | refine blk_alloc ?_ _)); exact (Q_BK319 h0_ h1_)) hb))
          have z_BK320 := fun (h0_ : b 8 = true) (h1_ : b 11 = false) => (show w72.heap[gb320]? = some (.cells #[.int .i64 0, .int .i64 0] 24 (0, 0)) from by first | exact (blk_below (g := gb320) (o := .cells #[.int .i64 0, .int .i64 0] 24 (0, 0)) (by (with_reducible repeat (first | refine blk_drewN ?_ _ | refine blk_drew ?_ | refine blk_alloc ?_ _)); exact (Q_BK320 h0_ h1_)) hb))
          clear BK311
          clear HB
          have BK311 := n0_
          have HB := n1_
          have BK318 := n2_
          have GW318 := n3_
          have GE318 := n4_
          have NB311_318 := n5_
          have NB318_311 := n6_
          clear n0_ n1_ n2_ n3_ n4_ n5_ n6_
          clear hb hbox hg
          refine hK.out _ _ ⟨gb318, gb319, gb320, (.pointer (some ⟨gb318, 0, none⟩)), m7_, m8_, (by rw [ha.out]; exact putSel_upk 6 hb_ rfl rfl rfl), (by (with_reducible repeat (first | refine blk_drewN ?_ _ | refine blk_drew ?_ | refine blk_alloc ?_ _)); exact BK311.out), (by repeat (first | (with_reducible first | exact HB.out | apply below_alloc | apply pw_below_drewN | apply below_drew1 | refine below_set ?_ GE311.out | refine below_set ?_ GE318.out) | exact HB.out)), @z_NB319_318, @z_NB318_319, @z_NB320_318, @z_NB318_320, Q_NB320_319, Q_NB319_320, fun _ _ => (by (with_reducible repeat (first | refine blk_drewN ?_ _ | refine blk_drew ?_ | refine blk_alloc ?_ _)); exact BK318.out), fun _ => GW318.out, fun _ => GE318.out, fun _ => NB311_318.out, fun _ => NB318_311.out, z_BK319, Q_GW319, Q_GE319, Q_NB311_319, Q_NB319_311, z_BK320, Q_GW320, Q_GE320, Q_NB311_320, Q_NB320_311, fun h0_ => absurd ((hoff 9 (by kernel_rfl)).symm.trans h0_) (by decide), fun h0_ => absurd ((hoff 10 (by kernel_rfl)).symm.trans h0_) (by decide), fun h0_ => absurd ((hoff 11 (by kernel_rfl)).symm.trans h0_) (by decide), fun _ => rfl, Q_X7_, Q_X8_⟩
        refine steps_cons ?_ ?_
        · rintro b a w' ⟨gb318, gb319, gb320, m6_, m7_, m8_, ha, Q_BK311, Q_HB, Q_NB319_318, Q_NB318_319, Q_NB320_318, Q_NB318_320, Q_NB320_319, Q_NB319_320, Q_BK318, Q_GW318, Q_GE318, Q_NB311_318, Q_NB318_311, Q_BK319, Q_GW319, Q_GE319, Q_NB311_319, Q_NB319_311, Q_BK320, Q_GW320, Q_GE320, Q_NB311_320, Q_NB320_311, Q_BK318_e9, Q_BK319_e10, Q_BK320_e11, Q_X6_, Q_X7_, Q_X8_⟩ hb_ hon hoff
          refine ⟨_, rfl, fun K hK => ?_⟩
          replace ha := Aside0.mk ha
          have BK311 := Aside0.mk Q_BK311
          have HB := Aside0.mk Q_HB
          refine box_step ?hg (N := 6) ?hd (cs := #[.int .i64 0, .int .i64 0]) (t := 24) ?hr ?_; (case hd => rfl); (case hg => rfl); (case hr => first | (go_simp; done) | (go_simp; rfl))
          intro gb319 hg w72 hbox hb
          have n0_ := Aside0.mk (blk_below (g := gb311) (o := .cells #[.int .i64 a0_0, .int .i64 a0_1] 24 (0, 0)) (by (with_reducible repeat (first | refine blk_drewN ?_ _ | refine blk_drew ?_ | refine blk_alloc ?_ _)); exact BK311.out) hb)
          have n1_ := Aside0.mk (below_step (by repeat (first | (with_reducible first | exact HB.out | apply below_alloc | apply pw_below_drewN | apply below_drew1 | refine below_set ?_ GE311.out) | exact HB.out)) hb)
          have n2_ := Aside0.mk (hbox)
          have n3_ := Aside0.mk ((by rw [hg]; exact (below_size (by repeat (first | (with_reducible first | exact HB.out | apply below_alloc | apply pw_below_drewN | apply below_drew1 | refine below_set ?_ GE311.out) | exact HB.out))) : w.heap.size ≤ gb319))
          have n4_ := Aside0.mk ((by rw [hg]; exact (below_size (by repeat (first | (with_reducible first | exact HB.out | apply below_alloc | apply pw_below_drewN | apply below_drew1 | refine below_set ?_ GE311.out) | exact HB.out))) : w.heap.size ≤ gb319))
          have n5_ := Aside0.mk ((by rw [hg]; exact Nat.ne_of_lt (blk_lt (g := gb311) (o := .cells #[.int .i64 a0_0, .int .i64 a0_1] 24 (0, 0)) (by (with_reducible repeat (first | refine blk_drewN ?_ _ | refine blk_drew ?_ | refine blk_alloc ?_ _)); exact BK311.out)) : gb311 ≠ gb319))
          have n6_ := Aside0.mk ((by rw [hg]; exact Nat.ne_of_gt (blk_lt (g := gb311) (o := .cells #[.int .i64 a0_0, .int .i64 a0_1] 24 (0, 0)) (by (with_reducible repeat (first | refine blk_drewN ?_ _ | refine blk_drew ?_ | refine blk_alloc ?_ _)); exact BK311.out)) : gb319 ≠ gb311))
          have z_NB319_318 := fun (h0_ : up b 7 6 = true) (h1_ : up b 7 7 = true) => (show gb319 ≠ gb318 from ((by rw [hg]; exact Nat.ne_of_gt (blk_lt (g := gb318) (o := .cells #[.int .i64 0, .int .i64 0] 24 (0, 0)) (by (with_reducible repeat (first | refine blk_drewN ?_ _ | refine blk_drew ?_ | refine blk_alloc ?_ _)); exact (Q_BK318 (show b 6 = true from h0_) (hoff 9 (by kernel_rfl))))) : gb319 ≠ gb318)))
          have z_NB318_319 := fun (h0_ : up b 7 6 = true) (h1_ : up b 7 7 = true) => (show gb318 ≠ gb319 from ((by rw [hg]; exact Nat.ne_of_lt (blk_lt (g := gb318) (o := .cells #[.int .i64 0, .int .i64 0] 24 (0, 0)) (by (with_reducible repeat (first | refine blk_drewN ?_ _ | refine blk_drew ?_ | refine blk_alloc ?_ _)); exact (Q_BK318 (show b 6 = true from h0_) (hoff 9 (by kernel_rfl))))) : gb318 ≠ gb319)))
          have z_NB320_319 := fun (h0_ : up b 7 7 = true) (h1_ : up b 7 8 = true) => (show gb320 ≠ gb319 from ((by rw [hg]; exact Nat.ne_of_lt (blk_lt (g := gb320) (o := .cells #[.int .i64 0, .int .i64 0] 24 (0, 0)) (by (with_reducible repeat (first | refine blk_drewN ?_ _ | refine blk_drew ?_ | refine blk_alloc ?_ _)); exact (Q_BK320 (show b 8 = true from h1_) (hoff 11 (by kernel_rfl))))) : gb320 ≠ gb319)))
          have z_NB319_320 := fun (h0_ : up b 7 7 = true) (h1_ : up b 7 8 = true) => (show gb319 ≠ gb320 from ((by rw [hg]; exact Nat.ne_of_gt (blk_lt (g := gb320) (o := .cells #[.int .i64 0, .int .i64 0] 24 (0, 0)) (by (with_reducible repeat (first | refine blk_drewN ?_ _ | refine blk_drew ?_ | refine blk_alloc ?_ _)); exact (Q_BK320 (show b 8 = true from h1_) (hoff 11 (by kernel_rfl))))) : gb319 ≠ gb320)))
          have z_BK318 := fun (h0_ : b 6 = true) (h1_ : b 9 = false) => (show w72.heap[gb318]? = some (.cells #[.int .i64 0, .int .i64 0] 24 (0, 0)) from by first | exact (blk_below (g := gb318) (o := .cells #[.int .i64 0, .int .i64 0] 24 (0, 0)) (by (with_reducible repeat (first | refine blk_drewN ?_ _ | refine blk_drew ?_ | refine blk_alloc ?_ _)); exact (Q_BK318 h0_ h1_)) hb))
          have z_BK320 := fun (h0_ : b 8 = true) (h1_ : b 11 = false) => (show w72.heap[gb320]? = some (.cells #[.int .i64 0, .int .i64 0] 24 (0, 0)) from by first | exact (blk_below (g := gb320) (o := .cells #[.int .i64 0, .int .i64 0] 24 (0, 0)) (by (with_reducible repeat (first | refine blk_drewN ?_ _ | refine blk_drew ?_ | refine blk_alloc ?_ _)); exact (Q_BK320 h0_ h1_)) hb))
          clear BK311
          clear HB
          have BK311 := n0_
          have HB := n1_
          have BK319 := n2_
          have GW319 := n3_
          have GE319 := n4_
          have NB311_319 := n5_
          have NB319_311 := n6_
          clear n0_ n1_ n2_ n3_ n4_ n5_ n6_
          clear hb hbox hg
          refine hK.out _ _ ⟨gb318, gb319, gb320, m6_, (.pointer (some ⟨gb319, 0, none⟩)), m8_, (by rw [ha.out]; exact putSel_upk 7 hb_ rfl rfl rfl), (by (with_reducible repeat (first | refine blk_drewN ?_ _ | refine blk_drew ?_ | refine blk_alloc ?_ _)); exact BK311.out), (by repeat (first | (with_reducible first | exact HB.out | apply below_alloc | apply pw_below_drewN | apply below_drew1 | refine below_set ?_ GE311.out | refine below_set ?_ GE319.out) | exact HB.out)), @z_NB319_318, @z_NB318_319, Q_NB320_318, Q_NB318_320, @z_NB320_319, @z_NB319_320, z_BK318, Q_GW318, Q_GE318, Q_NB311_318, Q_NB318_311, fun _ _ => (by (with_reducible repeat (first | refine blk_drewN ?_ _ | refine blk_drew ?_ | refine blk_alloc ?_ _)); exact BK319.out), fun _ => GW319.out, fun _ => GE319.out, fun _ => NB311_319.out, fun _ => NB319_311.out, z_BK320, Q_GW320, Q_GE320, Q_NB311_320, Q_NB320_311, fun h0_ => absurd ((hoff 9 (by kernel_rfl)).symm.trans h0_) (by decide), fun h0_ => absurd ((hoff 10 (by kernel_rfl)).symm.trans h0_) (by decide), fun h0_ => absurd ((hoff 11 (by kernel_rfl)).symm.trans h0_) (by decide), Q_X6_, fun _ => rfl, Q_X8_⟩
        refine steps_cons ?_ ?_
        · rintro b a w' ⟨gb318, gb319, gb320, m6_, m7_, m8_, ha, Q_BK311, Q_HB, Q_NB319_318, Q_NB318_319, Q_NB320_318, Q_NB318_320, Q_NB320_319, Q_NB319_320, Q_BK318, Q_GW318, Q_GE318, Q_NB311_318, Q_NB318_311, Q_BK319, Q_GW319, Q_GE319, Q_NB311_319, Q_NB319_311, Q_BK320, Q_GW320, Q_GE320, Q_NB311_320, Q_NB320_311, Q_BK318_e9, Q_BK319_e10, Q_BK320_e11, Q_X6_, Q_X7_, Q_X8_⟩ hb_ hon hoff
          refine ⟨_, rfl, fun K hK => ?_⟩
          replace ha := Aside0.mk ha
          have BK311 := Aside0.mk Q_BK311
          have HB := Aside0.mk Q_HB
          refine box_step ?hg (N := 7) ?hd (cs := #[.int .i64 0, .int .i64 0]) (t := 24) ?hr ?_; (case hd => rfl); (case hg => rfl); (case hr => first | (go_simp; done) | (go_simp; rfl))
          intro gb320 hg w72 hbox hb
          have n0_ := Aside0.mk (blk_below (g := gb311) (o := .cells #[.int .i64 a0_0, .int .i64 a0_1] 24 (0, 0)) (by (with_reducible repeat (first | refine blk_drewN ?_ _ | refine blk_drew ?_ | refine blk_alloc ?_ _)); exact BK311.out) hb)
          have n1_ := Aside0.mk (below_step (by repeat (first | (with_reducible first | exact HB.out | apply below_alloc | apply pw_below_drewN | apply below_drew1 | refine below_set ?_ GE311.out) | exact HB.out)) hb)
          have n2_ := Aside0.mk (hbox)
          have n3_ := Aside0.mk ((by rw [hg]; exact (below_size (by repeat (first | (with_reducible first | exact HB.out | apply below_alloc | apply pw_below_drewN | apply below_drew1 | refine below_set ?_ GE311.out) | exact HB.out))) : w.heap.size ≤ gb320))
          have n4_ := Aside0.mk ((by rw [hg]; exact (below_size (by repeat (first | (with_reducible first | exact HB.out | apply below_alloc | apply pw_below_drewN | apply below_drew1 | refine below_set ?_ GE311.out) | exact HB.out))) : w.heap.size ≤ gb320))
          have n5_ := Aside0.mk ((by rw [hg]; exact Nat.ne_of_lt (blk_lt (g := gb311) (o := .cells #[.int .i64 a0_0, .int .i64 a0_1] 24 (0, 0)) (by (with_reducible repeat (first | refine blk_drewN ?_ _ | refine blk_drew ?_ | refine blk_alloc ?_ _)); exact BK311.out)) : gb311 ≠ gb320))
          have n6_ := Aside0.mk ((by rw [hg]; exact Nat.ne_of_gt (blk_lt (g := gb311) (o := .cells #[.int .i64 a0_0, .int .i64 a0_1] 24 (0, 0)) (by (with_reducible repeat (first | refine blk_drewN ?_ _ | refine blk_drew ?_ | refine blk_alloc ?_ _)); exact BK311.out)) : gb320 ≠ gb311))
          have z_NB320_318 := fun (h0_ : up b 8 6 = true) (h1_ : up b 8 8 = true) => (show gb320 ≠ gb318 from ((by rw [hg]; exact Nat.ne_of_gt (blk_lt (g := gb318) (o := .cells #[.int .i64 0, .int .i64 0] 24 (0, 0)) (by (with_reducible repeat (first | refine blk_drewN ?_ _ | refine blk_drew ?_ | refine blk_alloc ?_ _)); exact (Q_BK318 (show b 6 = true from h0_) (hoff 9 (by kernel_rfl))))) : gb320 ≠ gb318)))
          have z_NB318_320 := fun (h0_ : up b 8 6 = true) (h1_ : up b 8 8 = true) => (show gb318 ≠ gb320 from ((by rw [hg]; exact Nat.ne_of_lt (blk_lt (g := gb318) (o := .cells #[.int .i64 0, .int .i64 0] 24 (0, 0)) (by (with_reducible repeat (first | refine blk_drewN ?_ _ | refine blk_drew ?_ | refine blk_alloc ?_ _)); exact (Q_BK318 (show b 6 = true from h0_) (hoff 9 (by kernel_rfl))))) : gb318 ≠ gb320)))
          have z_NB320_319 := fun (h0_ : up b 8 7 = true) (h1_ : up b 8 8 = true) => (show gb320 ≠ gb319 from ((by rw [hg]; exact Nat.ne_of_gt (blk_lt (g := gb319) (o := .cells #[.int .i64 0, .int .i64 0] 24 (0, 0)) (by (with_reducible repeat (first | refine blk_drewN ?_ _ | refine blk_drew ?_ | refine blk_alloc ?_ _)); exact (Q_BK319 (show b 7 = true from h0_) (hoff 10 (by kernel_rfl))))) : gb320 ≠ gb319)))
          have z_NB319_320 := fun (h0_ : up b 8 7 = true) (h1_ : up b 8 8 = true) => (show gb319 ≠ gb320 from ((by rw [hg]; exact Nat.ne_of_lt (blk_lt (g := gb319) (o := .cells #[.int .i64 0, .int .i64 0] 24 (0, 0)) (by (with_reducible repeat (first | refine blk_drewN ?_ _ | refine blk_drew ?_ | refine blk_alloc ?_ _)); exact (Q_BK319 (show b 7 = true from h0_) (hoff 10 (by kernel_rfl))))) : gb319 ≠ gb320)))
          have z_BK318 := fun (h0_ : b 6 = true) (h1_ : b 9 = false) => (show w72.heap[gb318]? = some (.cells #[.int .i64 0, .int .i64 0] 24 (0, 0)) from by first | exact (blk_below (g := gb318) (o := .cells #[.int .i64 0, .int .i64 0] 24 (0, 0)) (by (with_reducible repeat (first | refine blk_drewN ?_ _ | refine blk_drew ?_ | refine blk_alloc ?_ _)); exact (Q_BK318 h0_ h1_)) hb))
          have z_BK319 := fun (h0_ : b 7 = true) (h1_ : b 10 = false) => (show w72.heap[gb319]? = some (.cells #[.int .i64 0, .int .i64 0] 24 (0, 0)) from by first | exact (blk_below (g := gb319) (o := .cells #[.int .i64 0, .int .i64 0] 24 (0, 0)) (by (with_reducible repeat (first | refine blk_drewN ?_ _ | refine blk_drew ?_ | refine blk_alloc ?_ _)); exact (Q_BK319 h0_ h1_)) hb))
          clear BK311
          clear HB
          have BK311 := n0_
          have HB := n1_
          have BK320 := n2_
          have GW320 := n3_
          have GE320 := n4_
          have NB311_320 := n5_
          have NB320_311 := n6_
          clear n0_ n1_ n2_ n3_ n4_ n5_ n6_
          clear hb hbox hg
          refine hK.out _ _ ⟨gb318, gb319, gb320, m6_, m7_, (.pointer (some ⟨gb320, 0, none⟩)), (by rw [ha.out]; exact putSel_upk 8 hb_ rfl rfl rfl), (by (with_reducible repeat (first | refine blk_drewN ?_ _ | refine blk_drew ?_ | refine blk_alloc ?_ _)); exact BK311.out), (by repeat (first | (with_reducible first | exact HB.out | apply below_alloc | apply pw_below_drewN | apply below_drew1 | refine below_set ?_ GE311.out | refine below_set ?_ GE320.out) | exact HB.out)), Q_NB319_318, Q_NB318_319, @z_NB320_318, @z_NB318_320, @z_NB320_319, @z_NB319_320, z_BK318, Q_GW318, Q_GE318, Q_NB311_318, Q_NB318_311, z_BK319, Q_GW319, Q_GE319, Q_NB311_319, Q_NB319_311, fun _ _ => (by (with_reducible repeat (first | refine blk_drewN ?_ _ | refine blk_drew ?_ | refine blk_alloc ?_ _)); exact BK320.out), fun _ => GW320.out, fun _ => GE320.out, fun _ => NB311_320.out, fun _ => NB320_311.out, fun h0_ => absurd ((hoff 9 (by kernel_rfl)).symm.trans h0_) (by decide), fun h0_ => absurd ((hoff 10 (by kernel_rfl)).symm.trans h0_) (by decide), fun h0_ => absurd ((hoff 11 (by kernel_rfl)).symm.trans h0_) (by decide), Q_X6_, Q_X7_, fun _ => rfl⟩
        refine steps_cons ?_ ?_
        · rintro b a w' ⟨gb318, gb319, gb320, m6_, m7_, m8_, ha, Q_BK311, Q_HB, Q_NB319_318, Q_NB318_319, Q_NB320_318, Q_NB318_320, Q_NB320_319, Q_NB319_320, Q_BK318, Q_GW318, Q_GE318, Q_NB311_318, Q_NB318_311, Q_BK319, Q_GW319, Q_GE319, Q_NB311_319, Q_NB319_311, Q_BK320, Q_GW320, Q_GE320, Q_NB311_320, Q_NB320_311, Q_BK318_e9, Q_BK319_e10, Q_BK320_e11, Q_X6_, Q_X7_, Q_X8_⟩ hb_ hon hoff
          refine ⟨_, rfl, fun K hK => ?_⟩
          have e5 : a.tmps[5]? = some (m6_) := by rw [ha]; exact putSel_on (e := (6, 5, m6_)) 6 rfl rfl (hon 6 (by kernel_rfl)) rfl
          rw [Q_X6_ (hon 6 (by kernel_rfl))] at e5
          have e9 : a.tmps[9]? = some (.agg #[.int .i64 t312, .int .i64 t313]) := by rw [ha]; exact putSel_on (e := (1, 9, .agg #[.int .i64 t312, .int .i64 t313])) 1 rfl rfl (hon 1 (by kernel_rfl)) rfl
          replace ha := Aside0.mk ha
          have BK311 := Aside0.mk Q_BK311
          have HB := Aside0.mk Q_HB
          have NB319_318 := Aside0.mk (Q_NB319_318 (hon 6 (by kernel_rfl)) (hon 7 (by kernel_rfl)))
          have NB318_319 := Aside0.mk (Q_NB318_319 (hon 6 (by kernel_rfl)) (hon 7 (by kernel_rfl)))
          have NB320_318 := Aside0.mk (Q_NB320_318 (hon 6 (by kernel_rfl)) (hon 8 (by kernel_rfl)))
          have NB318_320 := Aside0.mk (Q_NB318_320 (hon 6 (by kernel_rfl)) (hon 8 (by kernel_rfl)))
          have NB320_319 := Aside0.mk (Q_NB320_319 (hon 7 (by kernel_rfl)) (hon 8 (by kernel_rfl)))
          have NB319_320 := Aside0.mk (Q_NB319_320 (hon 7 (by kernel_rfl)) (hon 8 (by kernel_rfl)))
          have BK318 := Aside0.mk (Q_BK318 (hon 6 (by kernel_rfl)) hb_)
          have GW318 := Aside0.mk (Q_GW318 (hon 6 (by kernel_rfl)))
          have GE318 := Aside0.mk (Q_GE318 (hon 6 (by kernel_rfl)))
          have NB311_318 := Aside0.mk (Q_NB311_318 (hon 6 (by kernel_rfl)))
          have NB318_311 := Aside0.mk (Q_NB318_311 (hon 6 (by kernel_rfl)))
          have BK319 := Aside0.mk (Q_BK319 (hon 7 (by kernel_rfl)) (hoff 10 (by kernel_rfl)))
          have GW319 := Aside0.mk (Q_GW319 (hon 7 (by kernel_rfl)))
          have GE319 := Aside0.mk (Q_GE319 (hon 7 (by kernel_rfl)))
          have NB311_319 := Aside0.mk (Q_NB311_319 (hon 7 (by kernel_rfl)))
          have NB319_311 := Aside0.mk (Q_NB319_311 (hon 7 (by kernel_rfl)))
          have BK320 := Aside0.mk (Q_BK320 (hon 8 (by kernel_rfl)) (hoff 11 (by kernel_rfl)))
          have GW320 := Aside0.mk (Q_GW320 (hon 8 (by kernel_rfl)))
          have GE320 := Aside0.mk (Q_GE320 (hon 8 (by kernel_rfl)))
          have NB311_320 := Aside0.mk (Q_NB311_320 (hon 8 (by kernel_rfl)))
          have NB320_311 := Aside0.mk (Q_NB320_311 (hon 8 (by kernel_rfl)))
          have hs79 : w'.cell? ⟨gb318, 0, none⟩ = some (.int .i64 0) := (blk_cell BK318.out 0).trans rfl
          have hfs79 := blk_frozen BK318.out 0
          have hns79_0 := NB311_318.out
          have hns79_2 := NB319_318.out
          have hns79_3 := NB320_318.out
          have hms79_0 := NB318_311.out
          have hms79_2 := NB318_319.out
          have hms79_3 := NB318_320.out
          have hs80 : w'.cell? ⟨gb318, 1, none⟩ = some (.int .i64 0) := (blk_cell BK318.out 1).trans rfl
          have hfs80 := blk_frozen BK318.out 1
          have hns80_0 := NB311_318.out
          have hns80_2 := NB319_318.out
          have hns80_3 := NB320_318.out
          have hms80_0 := NB318_311.out
          have hms80_2 := NB318_319.out
          have hms80_3 := NB318_320.out
          refine skip_ (w1 := ?_) (by rfl) rfl ?_ ?_
          rotate_left
          · go_simp
            rfl
          refine hK.out _ _ ⟨gb318, gb319, gb320, m6_, m7_, m8_, (by rw [ha.out]; exact putSel_none (v := undef) rfl), (by (with_reducible repeat (first | refine blk_drewN ?_ _ | refine blk_drew ?_ | refine blk_alloc ?_ _)); refine blk_far ?_ NB311_318.out _; (with_reducible repeat (first | refine blk_drewN ?_ _ | refine blk_drew ?_ | refine blk_alloc ?_ _)); refine blk_far ?_ NB311_318.out _; (with_reducible repeat (first | refine blk_drewN ?_ _ | refine blk_drew ?_ | refine blk_alloc ?_ _)); exact BK311.out), (by repeat (first | (with_reducible first | exact HB.out | apply below_alloc | apply pw_below_drewN | apply below_drew1 | refine below_set ?_ GE311.out | refine below_set ?_ GE318.out | refine below_set ?_ GE319.out | refine below_set ?_ GE320.out) | exact HB.out)), fun _ _ => NB319_318.out, fun _ _ => NB318_319.out, fun _ _ => NB320_318.out, fun _ _ => NB318_320.out, fun _ _ => NB320_319.out, fun _ _ => NB319_320.out, fun _ h1_ => absurd ((up_self b 9).symm.trans h1_) (by decide), fun _ => GW318.out, fun _ => GE318.out, fun _ => NB311_318.out, fun _ => NB318_311.out, fun _ _ => (by (with_reducible repeat (first | refine blk_drewN ?_ _ | refine blk_drew ?_ | refine blk_alloc ?_ _)); refine blk_far ?_ NB319_318.out _; (with_reducible repeat (first | refine blk_drewN ?_ _ | refine blk_drew ?_ | refine blk_alloc ?_ _)); refine blk_far ?_ NB319_318.out _; (with_reducible repeat (first | refine blk_drewN ?_ _ | refine blk_drew ?_ | refine blk_alloc ?_ _)); exact BK319.out), fun _ => GW319.out, fun _ => GE319.out, fun _ => NB311_319.out, fun _ => NB319_311.out, fun _ _ => (by (with_reducible repeat (first | refine blk_drewN ?_ _ | refine blk_drew ?_ | refine blk_alloc ?_ _)); refine blk_far ?_ NB320_318.out _; (with_reducible repeat (first | refine blk_drewN ?_ _ | refine blk_drew ?_ | refine blk_alloc ?_ _)); refine blk_far ?_ NB320_318.out _; (with_reducible repeat (first | refine blk_drewN ?_ _ | refine blk_drew ?_ | refine blk_alloc ?_ _)); exact BK320.out), fun _ => GW320.out, fun _ => GE320.out, fun _ => NB311_320.out, fun _ => NB320_311.out, fun _ => (by (with_reducible repeat (first | refine blk_drewN ?_ _ | refine blk_drew ?_ | refine blk_alloc ?_ _)); refine blk_put (cs := #[.int .i64 t312, .int .i64 0]) ?_ 1 _ rfl; (with_reducible repeat (first | refine blk_drewN ?_ _ | refine blk_drew ?_ | refine blk_alloc ?_ _)); refine blk_put (cs := #[.int .i64 0, .int .i64 0]) ?_ 0 _ rfl; (with_reducible repeat (first | refine blk_drewN ?_ _ | refine blk_drew ?_ | refine blk_alloc ?_ _)); exact BK318.out), fun h0_ => absurd ((hoff 10 (by kernel_rfl)).symm.trans h0_) (by decide), fun h0_ => absurd ((hoff 11 (by kernel_rfl)).symm.trans h0_) (by decide), Q_X6_, Q_X7_, Q_X8_⟩
        refine steps_cons ?_ ?_
        · rintro b a w' ⟨gb318, gb319, gb320, m6_, m7_, m8_, ha, Q_BK311, Q_HB, Q_NB319_318, Q_NB318_319, Q_NB320_318, Q_NB318_320, Q_NB320_319, Q_NB319_320, Q_BK318, Q_GW318, Q_GE318, Q_NB311_318, Q_NB318_311, Q_BK319, Q_GW319, Q_GE319, Q_NB311_319, Q_NB319_311, Q_BK320, Q_GW320, Q_GE320, Q_NB311_320, Q_NB320_311, Q_BK318_e9, Q_BK319_e10, Q_BK320_e11, Q_X6_, Q_X7_, Q_X8_⟩ hb_ hon hoff
          refine ⟨_, rfl, fun K hK => ?_⟩
          have e6 : a.tmps[6]? = some (m7_) := by rw [ha]; exact putSel_on (e := (7, 6, m7_)) 7 rfl rfl (hon 7 (by kernel_rfl)) rfl
          rw [Q_X7_ (hon 7 (by kernel_rfl))] at e6
          have e11 : a.tmps[11]? = some (.agg #[.int .i64 t314, .int .i64 t315]) := by rw [ha]; exact putSel_on (e := (3, 11, .agg #[.int .i64 t314, .int .i64 t315])) 3 rfl rfl (hon 3 (by kernel_rfl)) rfl
          replace ha := Aside0.mk ha
          have BK311 := Aside0.mk Q_BK311
          have HB := Aside0.mk Q_HB
          have NB319_318 := Aside0.mk (Q_NB319_318 (hon 6 (by kernel_rfl)) (hon 7 (by kernel_rfl)))
          have NB318_319 := Aside0.mk (Q_NB318_319 (hon 6 (by kernel_rfl)) (hon 7 (by kernel_rfl)))
          have NB320_318 := Aside0.mk (Q_NB320_318 (hon 6 (by kernel_rfl)) (hon 8 (by kernel_rfl)))
          have NB318_320 := Aside0.mk (Q_NB318_320 (hon 6 (by kernel_rfl)) (hon 8 (by kernel_rfl)))
          have NB320_319 := Aside0.mk (Q_NB320_319 (hon 7 (by kernel_rfl)) (hon 8 (by kernel_rfl)))
          have NB319_320 := Aside0.mk (Q_NB319_320 (hon 7 (by kernel_rfl)) (hon 8 (by kernel_rfl)))
          have GW318 := Aside0.mk (Q_GW318 (hon 6 (by kernel_rfl)))
          have GE318 := Aside0.mk (Q_GE318 (hon 6 (by kernel_rfl)))
          have NB311_318 := Aside0.mk (Q_NB311_318 (hon 6 (by kernel_rfl)))
          have NB318_311 := Aside0.mk (Q_NB318_311 (hon 6 (by kernel_rfl)))
          have BK319 := Aside0.mk (Q_BK319 (hon 7 (by kernel_rfl)) hb_)
          have GW319 := Aside0.mk (Q_GW319 (hon 7 (by kernel_rfl)))
          have GE319 := Aside0.mk (Q_GE319 (hon 7 (by kernel_rfl)))
          have NB311_319 := Aside0.mk (Q_NB311_319 (hon 7 (by kernel_rfl)))
          have NB319_311 := Aside0.mk (Q_NB319_311 (hon 7 (by kernel_rfl)))
          have BK320 := Aside0.mk (Q_BK320 (hon 8 (by kernel_rfl)) (hoff 11 (by kernel_rfl)))
          have GW320 := Aside0.mk (Q_GW320 (hon 8 (by kernel_rfl)))
          have GE320 := Aside0.mk (Q_GE320 (hon 8 (by kernel_rfl)))
          have NB311_320 := Aside0.mk (Q_NB311_320 (hon 8 (by kernel_rfl)))
          have NB320_311 := Aside0.mk (Q_NB320_311 (hon 8 (by kernel_rfl)))
          have BK318 := Aside0.mk (Q_BK318_e9 (hon 9 (by kernel_rfl)))
          have hs81 : w'.cell? ⟨gb319, 0, none⟩ = some (.int .i64 0) := (blk_cell BK319.out 0).trans rfl
          have hfs81 := blk_frozen BK319.out 0
          have hns81_0 := NB311_319.out
          have hns81_1 := NB318_319.out
          have hns81_3 := NB320_319.out
          have hms81_0 := NB319_311.out
          have hms81_1 := NB319_318.out
          have hms81_3 := NB319_320.out
          have hs82 : w'.cell? ⟨gb319, 1, none⟩ = some (.int .i64 0) := (blk_cell BK319.out 1).trans rfl
          have hfs82 := blk_frozen BK319.out 1
          have hns82_0 := NB311_319.out
          have hns82_1 := NB318_319.out
          have hns82_3 := NB320_319.out
          have hms82_0 := NB319_311.out
          have hms82_1 := NB319_318.out
          have hms82_3 := NB319_320.out
          refine skip_ (w1 := ?_) (by rfl) rfl ?_ ?_
          rotate_left
          · go_simp
            rfl
          refine hK.out _ _ ⟨gb318, gb319, gb320, m6_, m7_, m8_, (by rw [ha.out]; exact putSel_none (v := undef) rfl), (by (with_reducible repeat (first | refine blk_drewN ?_ _ | refine blk_drew ?_ | refine blk_alloc ?_ _)); refine blk_far ?_ NB311_319.out _; (with_reducible repeat (first | refine blk_drewN ?_ _ | refine blk_drew ?_ | refine blk_alloc ?_ _)); refine blk_far ?_ NB311_319.out _; (with_reducible repeat (first | refine blk_drewN ?_ _ | refine blk_drew ?_ | refine blk_alloc ?_ _)); exact BK311.out), (by repeat (first | (with_reducible first | exact HB.out | apply below_alloc | apply pw_below_drewN | apply below_drew1 | refine below_set ?_ GE311.out | refine below_set ?_ GE318.out | refine below_set ?_ GE319.out | refine below_set ?_ GE320.out) | exact HB.out)), fun _ _ => NB319_318.out, fun _ _ => NB318_319.out, fun _ _ => NB320_318.out, fun _ _ => NB318_320.out, fun _ _ => NB320_319.out, fun _ _ => NB319_320.out, fun _ h1_ => absurd ((hon 9 (by kernel_rfl)).symm.trans h1_) (by decide), fun _ => GW318.out, fun _ => GE318.out, fun _ => NB311_318.out, fun _ => NB318_311.out, fun _ h1_ => absurd ((up_self b 10).symm.trans h1_) (by decide), fun _ => GW319.out, fun _ => GE319.out, fun _ => NB311_319.out, fun _ => NB319_311.out, fun _ _ => (by (with_reducible repeat (first | refine blk_drewN ?_ _ | refine blk_drew ?_ | refine blk_alloc ?_ _)); refine blk_far ?_ NB320_319.out _; (with_reducible repeat (first | refine blk_drewN ?_ _ | refine blk_drew ?_ | refine blk_alloc ?_ _)); refine blk_far ?_ NB320_319.out _; (with_reducible repeat (first | refine blk_drewN ?_ _ | refine blk_drew ?_ | refine blk_alloc ?_ _)); exact BK320.out), fun _ => GW320.out, fun _ => GE320.out, fun _ => NB311_320.out, fun _ => NB320_311.out, fun _ => (by (with_reducible repeat (first | refine blk_drewN ?_ _ | refine blk_drew ?_ | refine blk_alloc ?_ _)); refine blk_far ?_ NB318_319.out _; (with_reducible repeat (first | refine blk_drewN ?_ _ | refine blk_drew ?_ | refine blk_alloc ?_ _)); refine blk_far ?_ NB318_319.out _; (with_reducible repeat (first | refine blk_drewN ?_ _ | refine blk_drew ?_ | refine blk_alloc ?_ _)); exact BK318.out), fun _ => (by (with_reducible repeat (first | refine blk_drewN ?_ _ | refine blk_drew ?_ | refine blk_alloc ?_ _)); refine blk_put (cs := #[.int .i64 t314, .int .i64 0]) ?_ 1 _ rfl; (with_reducible repeat (first | refine blk_drewN ?_ _ | refine blk_drew ?_ | refine blk_alloc ?_ _)); refine blk_put (cs := #[.int .i64 0, .int .i64 0]) ?_ 0 _ rfl; (with_reducible repeat (first | refine blk_drewN ?_ _ | refine blk_drew ?_ | refine blk_alloc ?_ _)); exact BK319.out), fun h0_ => absurd ((hoff 11 (by kernel_rfl)).symm.trans h0_) (by decide), Q_X6_, Q_X7_, Q_X8_⟩
        refine steps_cons ?_ ?_
        · rintro b a w' ⟨gb318, gb319, gb320, m6_, m7_, m8_, ha, Q_BK311, Q_HB, Q_NB319_318, Q_NB318_319, Q_NB320_318, Q_NB318_320, Q_NB320_319, Q_NB319_320, Q_BK318, Q_GW318, Q_GE318, Q_NB311_318, Q_NB318_311, Q_BK319, Q_GW319, Q_GE319, Q_NB311_319, Q_NB319_311, Q_BK320, Q_GW320, Q_GE320, Q_NB311_320, Q_NB320_311, Q_BK318_e9, Q_BK319_e10, Q_BK320_e11, Q_X6_, Q_X7_, Q_X8_⟩ hb_ hon hoff
          refine ⟨_, rfl, fun K hK => ?_⟩
          have e7 : a.tmps[7]? = some (m8_) := by rw [ha]; exact putSel_on (e := (8, 7, m8_)) 8 rfl rfl (hon 8 (by kernel_rfl)) rfl
          rw [Q_X8_ (hon 8 (by kernel_rfl))] at e7
          have e13 : a.tmps[13]? = some (.agg #[.int .i64 t316, .int .i64 t317]) := by rw [ha]; exact putSel_on (e := (5, 13, .agg #[.int .i64 t316, .int .i64 t317])) 5 rfl rfl (hon 5 (by kernel_rfl)) rfl
          replace ha := Aside0.mk ha
          have BK311 := Aside0.mk Q_BK311
          have HB := Aside0.mk Q_HB
          have NB319_318 := Aside0.mk (Q_NB319_318 (hon 6 (by kernel_rfl)) (hon 7 (by kernel_rfl)))
          have NB318_319 := Aside0.mk (Q_NB318_319 (hon 6 (by kernel_rfl)) (hon 7 (by kernel_rfl)))
          have NB320_318 := Aside0.mk (Q_NB320_318 (hon 6 (by kernel_rfl)) (hon 8 (by kernel_rfl)))
          have NB318_320 := Aside0.mk (Q_NB318_320 (hon 6 (by kernel_rfl)) (hon 8 (by kernel_rfl)))
          have NB320_319 := Aside0.mk (Q_NB320_319 (hon 7 (by kernel_rfl)) (hon 8 (by kernel_rfl)))
          have NB319_320 := Aside0.mk (Q_NB319_320 (hon 7 (by kernel_rfl)) (hon 8 (by kernel_rfl)))
          have GW318 := Aside0.mk (Q_GW318 (hon 6 (by kernel_rfl)))
          have GE318 := Aside0.mk (Q_GE318 (hon 6 (by kernel_rfl)))
          have NB311_318 := Aside0.mk (Q_NB311_318 (hon 6 (by kernel_rfl)))
          have NB318_311 := Aside0.mk (Q_NB318_311 (hon 6 (by kernel_rfl)))
          have GW319 := Aside0.mk (Q_GW319 (hon 7 (by kernel_rfl)))
          have GE319 := Aside0.mk (Q_GE319 (hon 7 (by kernel_rfl)))
          have NB311_319 := Aside0.mk (Q_NB311_319 (hon 7 (by kernel_rfl)))
          have NB319_311 := Aside0.mk (Q_NB319_311 (hon 7 (by kernel_rfl)))
          have BK320 := Aside0.mk (Q_BK320 (hon 8 (by kernel_rfl)) hb_)
          have GW320 := Aside0.mk (Q_GW320 (hon 8 (by kernel_rfl)))
          have GE320 := Aside0.mk (Q_GE320 (hon 8 (by kernel_rfl)))
          have NB311_320 := Aside0.mk (Q_NB311_320 (hon 8 (by kernel_rfl)))
          have NB320_311 := Aside0.mk (Q_NB320_311 (hon 8 (by kernel_rfl)))
          have BK318 := Aside0.mk (Q_BK318_e9 (hon 9 (by kernel_rfl)))
          have BK319 := Aside0.mk (Q_BK319_e10 (hon 10 (by kernel_rfl)))
          have hs83 : w'.cell? ⟨gb320, 0, none⟩ = some (.int .i64 0) := (blk_cell BK320.out 0).trans rfl
          have hfs83 := blk_frozen BK320.out 0
          have hns83_0 := NB311_320.out
          have hns83_1 := NB318_320.out
          have hns83_2 := NB319_320.out
          have hms83_0 := NB320_311.out
          have hms83_1 := NB320_318.out
          have hms83_2 := NB320_319.out
          have hs84 : w'.cell? ⟨gb320, 1, none⟩ = some (.int .i64 0) := (blk_cell BK320.out 1).trans rfl
          have hfs84 := blk_frozen BK320.out 1
          have hns84_0 := NB311_320.out
          have hns84_1 := NB318_320.out
          have hns84_2 := NB319_320.out
          have hms84_0 := NB320_311.out
          have hms84_1 := NB320_318.out
          have hms84_2 := NB320_319.out
          refine skip_ (w1 := ?_) (by rfl) rfl ?_ ?_
          rotate_left
          · go_simp
            rfl
          refine hK.out _ _ ⟨gb318, gb319, gb320, m6_, m7_, m8_, (by rw [ha.out]; exact putSel_none (v := undef) rfl), (by (with_reducible repeat (first | refine blk_drewN ?_ _ | refine blk_drew ?_ | refine blk_alloc ?_ _)); refine blk_far ?_ NB311_320.out _; (with_reducible repeat (first | refine blk_drewN ?_ _ | refine blk_drew ?_ | refine blk_alloc ?_ _)); refine blk_far ?_ NB311_320.out _; (with_reducible repeat (first | refine blk_drewN ?_ _ | refine blk_drew ?_ | refine blk_alloc ?_ _)); exact BK311.out), (by repeat (first | (with_reducible first | exact HB.out | apply below_alloc | apply pw_below_drewN | apply below_drew1 | refine below_set ?_ GE311.out | refine below_set ?_ GE318.out | refine below_set ?_ GE319.out | refine below_set ?_ GE320.out) | exact HB.out)), fun _ _ => NB319_318.out, fun _ _ => NB318_319.out, fun _ _ => NB320_318.out, fun _ _ => NB318_320.out, fun _ _ => NB320_319.out, fun _ _ => NB319_320.out, fun _ h1_ => absurd ((hon 9 (by kernel_rfl)).symm.trans h1_) (by decide), fun _ => GW318.out, fun _ => GE318.out, fun _ => NB311_318.out, fun _ => NB318_311.out, fun _ h1_ => absurd ((hon 10 (by kernel_rfl)).symm.trans h1_) (by decide), fun _ => GW319.out, fun _ => GE319.out, fun _ => NB311_319.out, fun _ => NB319_311.out, fun _ h1_ => absurd ((up_self b 11).symm.trans h1_) (by decide), fun _ => GW320.out, fun _ => GE320.out, fun _ => NB311_320.out, fun _ => NB320_311.out, fun _ => (by (with_reducible repeat (first | refine blk_drewN ?_ _ | refine blk_drew ?_ | refine blk_alloc ?_ _)); refine blk_far ?_ NB318_320.out _; (with_reducible repeat (first | refine blk_drewN ?_ _ | refine blk_drew ?_ | refine blk_alloc ?_ _)); refine blk_far ?_ NB318_320.out _; (with_reducible repeat (first | refine blk_drewN ?_ _ | refine blk_drew ?_ | refine blk_alloc ?_ _)); exact BK318.out), fun _ => (by (with_reducible repeat (first | refine blk_drewN ?_ _ | refine blk_drew ?_ | refine blk_alloc ?_ _)); refine blk_far ?_ NB319_320.out _; (with_reducible repeat (first | refine blk_drewN ?_ _ | refine blk_drew ?_ | refine blk_alloc ?_ _)); refine blk_far ?_ NB319_320.out _; (with_reducible repeat (first | refine blk_drewN ?_ _ | refine blk_drew ?_ | refine blk_alloc ?_ _)); exact BK319.out), fun _ => (by (with_reducible repeat (first | refine blk_drewN ?_ _ | refine blk_drew ?_ | refine blk_alloc ?_ _)); refine blk_put (cs := #[.int .i64 t316, .int .i64 0]) ?_ 1 _ rfl; (with_reducible repeat (first | refine blk_drewN ?_ _ | refine blk_drew ?_ | refine blk_alloc ?_ _)); refine blk_put (cs := #[.int .i64 0, .int .i64 0]) ?_ 0 _ rfl; (with_reducible repeat (first | refine blk_drewN ?_ _ | refine blk_drew ?_ | refine blk_alloc ?_ _)); exact BK320.out), Q_X6_, Q_X7_, Q_X8_⟩
        exact steps_nil
      rintro b a w84 hall ⟨gb318, gb319, gb320, m6_, m7_, m8_, ha, Q_BK311, Q_HB, Q_NB319_318, Q_NB318_319, Q_NB320_318, Q_NB318_320, Q_NB320_319, Q_NB319_320, Q_BK318, Q_GW318, Q_GE318, Q_NB311_318, Q_NB318_311, Q_BK319, Q_GW319, Q_GE319, Q_NB311_319, Q_NB319_311, Q_BK320, Q_GW320, Q_GE320, Q_NB311_320, Q_NB320_311, Q_BK318_e9, Q_BK319_e10, Q_BK320_e11, Q_X6_, Q_X7_, Q_X8_⟩
      clear BK311 HB
      have hb0_ := hall 0 (by kernel_rfl)
      have hb1_ := hall 1 (by kernel_rfl)
      have hb2_ := hall 2 (by kernel_rfl)
      have hb3_ := hall 3 (by kernel_rfl)
      have hb4_ := hall 4 (by kernel_rfl)
      have hb5_ := hall 5 (by kernel_rfl)
      have hb6_ := hall 6 (by kernel_rfl)
      have hb7_ := hall 7 (by kernel_rfl)
      have hb8_ := hall 8 (by kernel_rfl)
      have hb9_ := hall 9 (by kernel_rfl)
      have hb10_ := hall 10 (by kernel_rfl)
      have hb11_ := hall 11 (by kernel_rfl)
      subst ha
      obtain rfl := Q_X6_ hb6_
      obtain rfl := Q_X7_ hb7_
      obtain rfl := Q_X8_ hb8_
      simp only [putSel, hb0_, hb1_, hb2_, hb3_, hb4_, hb5_, hb6_, hb7_, hb8_, hb9_, hb10_, hb11_, if_true, Act.put, List.setIfInBounds_toArray, List.set_cons_zero, List.set_cons_succ]
      have BK311 := Aside0.mk Q_BK311
      clear Q_BK311
      have HB := Aside0.mk Q_HB
      clear Q_HB
      have NB319_318 := Aside0.mk (Q_NB319_318 hb6_ hb7_)
      clear Q_NB319_318
      have NB318_319 := Aside0.mk (Q_NB318_319 hb6_ hb7_)
      clear Q_NB318_319
      have NB320_318 := Aside0.mk (Q_NB320_318 hb6_ hb8_)
      clear Q_NB320_318
      have NB318_320 := Aside0.mk (Q_NB318_320 hb6_ hb8_)
      clear Q_NB318_320
      have NB320_319 := Aside0.mk (Q_NB320_319 hb7_ hb8_)
      clear Q_NB320_319
      have NB319_320 := Aside0.mk (Q_NB319_320 hb7_ hb8_)
      clear Q_NB319_320
      clear Q_BK318
      have GW318 := Aside0.mk (Q_GW318 hb6_)
      clear Q_GW318
      have GE318 := Aside0.mk (Q_GE318 hb6_)
      clear Q_GE318
      have NB311_318 := Aside0.mk (Q_NB311_318 hb6_)
      clear Q_NB311_318
      have NB318_311 := Aside0.mk (Q_NB318_311 hb6_)
      clear Q_NB318_311
      clear Q_BK319
      have GW319 := Aside0.mk (Q_GW319 hb7_)
      clear Q_GW319
      have GE319 := Aside0.mk (Q_GE319 hb7_)
      clear Q_GE319
      have NB311_319 := Aside0.mk (Q_NB311_319 hb7_)
      clear Q_NB311_319
      have NB319_311 := Aside0.mk (Q_NB319_311 hb7_)
      clear Q_NB319_311
      clear Q_BK320
      have GW320 := Aside0.mk (Q_GW320 hb8_)
      clear Q_GW320
      have GE320 := Aside0.mk (Q_GE320 hb8_)
      clear Q_GE320
      have NB311_320 := Aside0.mk (Q_NB311_320 hb8_)
      clear Q_NB311_320
      have NB320_311 := Aside0.mk (Q_NB320_311 hb8_)
      clear Q_NB320_311
      have BK318 := Aside0.mk (Q_BK318_e9 hb9_)
      clear Q_BK318_e9
      have BK319 := Aside0.mk (Q_BK319_e10 hb10_)
      clear Q_BK319_e10
      have BK320 := Aside0.mk (Q_BK320_e11 hb11_)
      clear Q_BK320_e11
      clear hall hb0_ hb1_ hb2_ hb3_ hb4_ hb5_ hb6_ hb7_ hb8_ hb9_ hb10_ hb11_
      try go_wp2
      have n0_ := Aside0.mk (blk_drew BK311.out)
      have n1_ := Aside0.mk (blk_drew BK318.out)
      have n2_ := Aside0.mk (blk_drew BK319.out)
      have n3_ := Aside0.mk (blk_drew BK320.out)
      have n4_ := Aside0.mk (below_drew1 HB.out)
      clear BK311
      clear BK318
      clear BK319
      clear BK320
      clear HB
      have BK311 := n0_
      have BK318 := n1_
      have BK319 := n2_
      have BK320 := n3_
      have HB := n4_
      clear n0_ n1_ n2_ n3_ n4_
      refine start_ (n := 5) (S := fun w' => w'.cell? ⟨gb311, 0, none⟩ = some (.int .i64 a0_0) ∧ w'.cell? ⟨gb311, 1, none⟩ = some (.int .i64 a0_1)) (ds := []) #[false, false, false, false, false] (by kernel_rfl) rfl rfl ⟨(blk_cell BK311.out 0).trans rfl, (blk_cell BK311.out 1).trans rfl⟩ (fun hHeld => ?_)
      generalize w84.drew = w85 at BK311 BK318 BK319 BK320 HB hHeld ⊢
      refine take_ (i := 0) (N := some 14) (v := ?_) (a' := ?_) #[true, false, false, false, false] rfl rfl (by kernel_rfl) (fun _ _ _ h => h) (Or.inl ⟨by rfl, ?_⟩) hHeld ?_ ?_
      rotate_left
      · rintro w' ⟨s0, s1⟩
        go_simp
        with_reducible rfl
      rotate_left
      · simp only [Act.put, List.setIfInBounds_toArray, List.set_cons_zero, List.set_cons_succ, i64_w, i32_w]
        rfl
      refine take_ (i := 2) (N := some 16) (v := ?_) (a' := ?_) #[true, false, true, false, false] rfl rfl (by kernel_rfl) (fun _ _ _ h => h) (Or.inl ⟨by rfl, ?_⟩) hHeld ?_ ?_
      rotate_left
      · rintro w' ⟨s0, s1⟩
        go_simp
        with_reducible rfl
      rotate_left
      · simp only [Act.put, List.setIfInBounds_toArray, List.set_cons_zero, List.set_cons_succ, i64_w, i32_w]
        rfl
      refine one_ (i := 1) (N := some 15) #[true, true, true, false, false] rfl rfl (by kernel_rfl) (by decide) (fun K hK => ?_)
      refine goes_ Tryz.func11 (by kernel_rfl) rfl #[.agg #[.int .i64 a0_0, .int .i64 a0_1]] (by rfl) rfl rfl (by (try simp only [List.map_toArray, List.map_cons, List.map_nil]); first | done | rfl | (simp only [List.length_drop, List.length_take]; rfl)) ?_
      with_reducible refine (xnum_Right.calls a0_0 a0_1 t321 _ ?side1 A6.out).mono ?_
      (case side1 => first | exact HLD | exact Laid.below HLD (by repeat (first | (with_reducible first | exact HB.out | apply below_alloc | apply pw_below_drewN | apply below_drew1 | refine below_set ?_ GE311.out | refine below_set ?_ GE318.out | refine below_set ?_ GE319.out | refine below_set ?_ GE320.out) | exact HB.out)))
      rintro e w86 ⟨rfl, hb⟩
      refine ⟨_, rfl, ?_⟩
      have n0_ := Aside0.mk (blk_below (g := gb311) (o := .cells #[.int .i64 a0_0, .int .i64 a0_1] 24 (0, 0)) (by (with_reducible repeat (first | refine blk_drewN ?_ _ | refine blk_drew ?_ | refine blk_alloc ?_ _)); exact BK311.out) hb)
      have n1_ := Aside0.mk (blk_below (g := gb318) (o := .cells #[.int .i64 t312, .int .i64 t313] 24 (0, 0)) (by (with_reducible repeat (first | refine blk_drewN ?_ _ | refine blk_drew ?_ | refine blk_alloc ?_ _)); exact BK318.out) hb)
      have n2_ := Aside0.mk (blk_below (g := gb319) (o := .cells #[.int .i64 t314, .int .i64 t315] 24 (0, 0)) (by (with_reducible repeat (first | refine blk_drewN ?_ _ | refine blk_drew ?_ | refine blk_alloc ?_ _)); exact BK319.out) hb)
      have n3_ := Aside0.mk (blk_below (g := gb320) (o := .cells #[.int .i64 t316, .int .i64 t317] 24 (0, 0)) (by (with_reducible repeat (first | refine blk_drewN ?_ _ | refine blk_drew ?_ | refine blk_alloc ?_ _)); exact BK320.out) hb)
      have n4_ := Aside0.mk (below_step (by repeat (first | (with_reducible first | exact HB.out | apply below_alloc | apply pw_below_drewN | apply below_drew1 | refine below_set ?_ GE311.out | refine below_set ?_ GE318.out | refine below_set ?_ GE319.out | refine below_set ?_ GE320.out) | exact HB.out)) hb)
      clear BK311
      clear BK318
      clear BK319
      clear BK320
      clear HB
      have BK311 := n0_
      have BK318 := n1_
      have BK319 := n2_
      have BK320 := n3_
      have HB := n4_
      clear n0_ n1_ n2_ n3_ n4_
      (try clear hb)
      (try clear hb2)
      (try clear hk)
      (try clear hi)
      refine hK.out _ _ ⟨(blk_cell BK311.out 0).trans rfl, (blk_cell BK311.out 1).trans rfl⟩ (fun hHeld => ?_)
      clear hK K
      refine norm_ (a' := ?_) ?_ ?_
      rotate_left
      · show Act.put _ (some 15) _ = _
        simp only [Act.put, List.setIfInBounds_toArray, List.set_cons_zero, List.set_cons_succ, i64_w, i32_w]
        rfl
      refine one_ (i := 3) (N := some 17) #[true, true, true, true, false] rfl rfl (by kernel_rfl) (by decide) (fun K hK => ?_)
      refine goes_ Tryz.func33 (by kernel_rfl) rfl #[.agg #[.int .i64 a0_0, .int .i64 a0_1]] (by rfl) rfl rfl (by (try simp only [List.map_toArray, List.map_cons, List.map_nil]); first | done | rfl | (simp only [List.length_drop, List.length_take]; rfl)) ?_
      with_reducible refine (stencilref02_Right.calls a0_0 a0_1 t322 _ ?side1 A7.out).mono ?_
      (case side1 => first | exact HLD | exact Laid.below HLD (by repeat (first | (with_reducible first | exact HB.out | apply below_alloc | apply pw_below_drewN | apply below_drew1 | refine below_set ?_ GE311.out | refine below_set ?_ GE318.out | refine below_set ?_ GE319.out | refine below_set ?_ GE320.out) | exact HB.out)))
      rintro e w87 ⟨rfl, hb⟩
      refine ⟨_, rfl, ?_⟩
      have n0_ := Aside0.mk (blk_below (g := gb311) (o := .cells #[.int .i64 a0_0, .int .i64 a0_1] 24 (0, 0)) (by (with_reducible repeat (first | refine blk_drewN ?_ _ | refine blk_drew ?_ | refine blk_alloc ?_ _)); exact BK311.out) hb)
      have n1_ := Aside0.mk (blk_below (g := gb318) (o := .cells #[.int .i64 t312, .int .i64 t313] 24 (0, 0)) (by (with_reducible repeat (first | refine blk_drewN ?_ _ | refine blk_drew ?_ | refine blk_alloc ?_ _)); exact BK318.out) hb)
      have n2_ := Aside0.mk (blk_below (g := gb319) (o := .cells #[.int .i64 t314, .int .i64 t315] 24 (0, 0)) (by (with_reducible repeat (first | refine blk_drewN ?_ _ | refine blk_drew ?_ | refine blk_alloc ?_ _)); exact BK319.out) hb)
      have n3_ := Aside0.mk (blk_below (g := gb320) (o := .cells #[.int .i64 t316, .int .i64 t317] 24 (0, 0)) (by (with_reducible repeat (first | refine blk_drewN ?_ _ | refine blk_drew ?_ | refine blk_alloc ?_ _)); exact BK320.out) hb)
      have n4_ := Aside0.mk (below_step (by repeat (first | (with_reducible first | exact HB.out | apply below_alloc | apply pw_below_drewN | apply below_drew1 | refine below_set ?_ GE311.out | refine below_set ?_ GE318.out | refine below_set ?_ GE319.out | refine below_set ?_ GE320.out) | exact HB.out)) hb)
      clear BK311
      clear BK318
      clear BK319
      clear BK320
      clear HB
      have BK311 := n0_
      have BK318 := n1_
      have BK319 := n2_
      have BK320 := n3_
      have HB := n4_
      clear n0_ n1_ n2_ n3_ n4_
      (try clear hb)
      (try clear hb2)
      (try clear hk)
      (try clear hi)
      refine hK.out _ _ ⟨(blk_cell BK311.out 0).trans rfl, (blk_cell BK311.out 1).trans rfl⟩ (fun hHeld => ?_)
      clear hK K
      refine norm_ (a' := ?_) ?_ ?_
      rotate_left
      · show Act.put _ (some 17) _ = _
        simp only [Act.put, List.setIfInBounds_toArray, List.set_cons_zero, List.set_cons_succ, i64_w, i32_w]
        rfl
      refine pure_ (i := 4) (N := some 18) (v := ?_) (a' := ?_) #[true, true, true, true, true] rfl rfl (by kernel_rfl) (fun _ _ _ h => h) (Or.inl ⟨by rfl, ?_⟩) ?_ ?_
      rotate_left
      · intro w'
        go_simp
        with_reducible rfl
      rotate_left
      · simp only [Act.put, List.setIfInBounds_toArray, List.set_cons_zero, List.set_cons_succ, i64_w, i32_w]
        rfl
      refine done_ (by kernel_rfl) ?_
      have hnb88 := NB311_318.out
      have hnc88 := NB318_311.out
      have hnb89 := NB311_319.out
      have hnc89 := NB319_311.out
      have hnb90 := NB311_320.out
      have hnc90 := NB320_311.out
      have hcz91_0 : w87.cell? ⟨gb311, 0, none⟩ = some (.int .i64 a0_0) := (blk_cell BK311.out 0).trans rfl
      have hcz91_1 : w87.cell? ⟨gb311, 1, none⟩ = some (.int .i64 a0_1) := (blk_cell BK311.out 1).trans rfl
      have hfz91_0 := blk_frozen BK311.out 0
      have hfz91_1 := blk_frozen BK311.out 1
      try go_wp2_with (first | ((with_reducible refine gate_callee (f := 33) rfl ?_); refine goesL_ (some 20) rfl rfl Tryz.func33 (by kernel_rfl) rfl #[.agg #[.int .i64 a0_0, .int .i64 a0_1]] rfl (by (try simp only [List.map_toArray, List.map_cons, List.map_nil]); first | done | rfl | (simp only [List.length_drop, List.length_take]; rfl)) ?_; (with_reducible refine (stencilref02_Right.calls a0_0 a0_1 false _ ?side1 A27.out).mono ?_); (case side1 => first | exact HLD | exact Laid.below HLD (by repeat (first | (with_reducible first | exact HB.out | apply below_alloc | apply pw_below_drewN | apply below_drew1 | refine below_set ?_ GE311.out | refine below_set ?_ GE318.out | refine below_set ?_ GE319.out | refine below_set ?_ GE320.out) | exact HB.out))); rintro e w92 ⟨rfl, hb⟩; refine ⟨_, rfl, ?_⟩; have n0_ := Aside0.mk (blk_below (g := gb311) (o := .cells #[.int .i64 a0_0, .int .i64 a0_1] 24 (0, 0)) (by (with_reducible repeat (first | refine blk_drewN ?_ _ | refine blk_drew ?_ | refine blk_alloc ?_ _)); exact BK311.out) hb); have n1_ := Aside0.mk (blk_below (g := gb318) (o := .cells #[.int .i64 t312, .int .i64 t313] 24 (0, 0)) (by (with_reducible repeat (first | refine blk_drewN ?_ _ | refine blk_drew ?_ | refine blk_alloc ?_ _)); exact BK318.out) hb); have n2_ := Aside0.mk (blk_below (g := gb319) (o := .cells #[.int .i64 t314, .int .i64 t315] 24 (0, 0)) (by (with_reducible repeat (first | refine blk_drewN ?_ _ | refine blk_drew ?_ | refine blk_alloc ?_ _)); exact BK319.out) hb); have n3_ := Aside0.mk (blk_below (g := gb320) (o := .cells #[.int .i64 t316, .int .i64 t317] 24 (0, 0)) (by (with_reducible repeat (first | refine blk_drewN ?_ _ | refine blk_drew ?_ | refine blk_alloc ?_ _)); exact BK320.out) hb); have n4_ := Aside0.mk (below_step (by repeat (first | (with_reducible first | exact HB.out | apply below_alloc | apply pw_below_drewN | apply below_drew1 | refine below_set ?_ GE311.out | refine below_set ?_ GE318.out | refine below_set ?_ GE319.out | refine below_set ?_ GE320.out) | exact HB.out)) hb); clear BK311; clear BK318; clear BK319; clear BK320; clear HB; have BK311 := n0_; have BK318 := n1_; have BK319 := n2_; have BK320 := n3_; have HB := n4_; clear n0_ n1_ n2_ n3_ n4_; (try clear hb); (try clear hb2); (try clear hk); (try clear hi)) | ((with_reducible refine gate_callee (f := 25) rfl ?_); refine goesL_ (some 22) rfl rfl Tryz.func25 (by kernel_rfl) rfl #[] rfl (by (try simp only [List.map_toArray, List.map_cons, List.map_nil]); first | done | rfl | (simp only [List.length_drop, List.length_take]; rfl)) ?_; (with_reducible refine (stencillaw02_live.calls k  t324 _ ?side1 A69.out).mono ?_); (case side1 => first | exact HLD | exact Laid.below HLD (by repeat (first | (with_reducible first | exact HB.out | apply below_alloc | apply pw_below_drewN | apply below_drew1 | refine below_set ?_ GE311.out | refine below_set ?_ GE318.out | refine below_set ?_ GE319.out | refine below_set ?_ GE320.out) | exact HB.out))); rintro e w93 ⟨rfl, hb⟩; refine ⟨_, rfl, ?_⟩; have n0_ := Aside0.mk (blk_below (g := gb311) (o := .cells #[.int .i64 a0_0, .int .i64 a0_1] 24 (0, 0)) (by (with_reducible repeat (first | refine blk_drewN ?_ _ | refine blk_drew ?_ | refine blk_alloc ?_ _)); exact BK311.out) hb); have n1_ := Aside0.mk (blk_below (g := gb318) (o := .cells #[.int .i64 t312, .int .i64 t313] 24 (0, 0)) (by (with_reducible repeat (first | refine blk_drewN ?_ _ | refine blk_drew ?_ | refine blk_alloc ?_ _)); exact BK318.out) hb); have n2_ := Aside0.mk (blk_below (g := gb319) (o := .cells #[.int .i64 t314, .int .i64 t315] 24 (0, 0)) (by (with_reducible repeat (first | refine blk_drewN ?_ _ | refine blk_drew ?_ | refine blk_alloc ?_ _)); exact BK319.out) hb); have n3_ := Aside0.mk (blk_below (g := gb320) (o := .cells #[.int .i64 t316, .int .i64 t317] 24 (0, 0)) (by (with_reducible repeat (first | refine blk_drewN ?_ _ | refine blk_drew ?_ | refine blk_alloc ?_ _)); exact BK320.out) hb); have n4_ := Aside0.mk (below_step (by repeat (first | (with_reducible first | exact HB.out | apply below_alloc | apply pw_below_drewN | apply below_drew1 | refine below_set ?_ GE311.out | refine below_set ?_ GE318.out | refine below_set ?_ GE319.out | refine below_set ?_ GE320.out) | exact HB.out)) hb); clear BK311; clear BK318; clear BK319; clear BK320; clear HB; have BK311 := n0_; have BK318 := n1_; have BK319 := n2_; have BK320 := n3_; have HB := n4_; clear n0_ n1_ n2_ n3_ n4_; (try clear hb); (try clear hb2); (try clear hk); (try clear hi)))
      go_ret
      exact ⟨by first | rfl | (simp [errW_none, errW_some] <;> rfl) | (simp [*, errW_none, errW_some] <;> rfl), by repeat (first | (with_reducible first | exact HB.out | apply below_alloc | apply pw_below_drewN | apply below_drew1 | refine below_set ?_ GE311.out | refine below_set ?_ GE318.out | refine below_set ?_ GE319.out | refine below_set ?_ GE320.out) | exact HB.out)⟩

end Go.Proofs.YtfbmojnndbbojaaGreatDoor.Print

-- APART
