-- Laid by xprint.py (ours), out of the seat's translation; Lean checks it.
import Derived.Test.YtinefoocajnhmaaDoorPrint0
import Derived.Test.YtinefoocajnhmaaDoorPrintlibdecode
import Derived.Test.YtinefoocajnhmaaDoorPrintf26
namespace Go.Proofs.YtinefoocajnhmaaDoor.Print
open Go.RowKit Go.Proofs.YtinefoocajnhmaaDoorW.PrintWords Go.Proofs.YtinefoocajnhmaaDoorW.PrintLast Go.Proofs.YtinefoocajnhmaaDoorW.PrintMore
attribute [local go_sem] max2_int min2_int max_two min_two max_three min_three max_four min_four   -- for this text's walks alone
open Go.Proofs.YtinefoocajnhmaaDoor.Plain
set_option linter.unusedVariables false
set_option linter.unusedSimpArgs false

/-! ### stencilref01_wide: function 61 -/
mutual
def stencilref01_wide.l0 : Nat → List Int → Int → List Int → Int → Option (ByteArray × Int × Int)
  | 0, _, _, _, _ => none
  | k + 1, x0, x1, x7, x8 => if x8 < (x0.length : Int) then (if (wrap64 (x8 + 1)) ≥ (x0.length : Int) then (some ((⟨#[]⟩ : ByteArray), 3, x8)) else (if 0 ≤ (wrap64 (x8 + x1)) then (if (wrap64 (x8 + x1)) < (x0.length : Int) then (if 0 ≤ (wrap64 ((wrap64 (x8 + 1)) - x1)) then (if (wrap64 ((wrap64 (x8 + 1)) - x1)) < (x0.length : Int) then (if (Go.bits .or .i32 (wrap32 ((wrap32 (rd x0 (wrap64 (x8 + x1)))) * 256)) (wrap32 (rd x0 (wrap64 ((wrap64 (x8 + 1)) - x1))))) ≥ 56320 then (stencilref01_wide.j1 k x0 x1 x7 x8 (Go.bits .or .i32 (wrap32 ((wrap32 (rd x0 (wrap64 (x8 + x1)))) * 256)) (wrap32 (rd x0 (wrap64 ((wrap64 (x8 + 1)) - x1))))) x8 (decide ((Go.bits .or .i32 (wrap32 ((wrap32 (rd x0 (wrap64 (x8 + x1)))) * 256)) (wrap32 (rd x0 (wrap64 ((wrap64 (x8 + 1)) - x1))))) ≤ 57343))) else (stencilref01_wide.j1 k x0 x1 x7 x8 (Go.bits .or .i32 (wrap32 ((wrap32 (rd x0 (wrap64 (x8 + x1)))) * 256)) (wrap32 (rd x0 (wrap64 ((wrap64 (x8 + 1)) - x1))))) x8 false)) else (none)) else (none)) else (none)) else (none))) else ((stencilref01_ends.f k (strOfNums x7)).bind fun t127 => (some (t127, 0, 0)))
def stencilref01_wide.j1 : Nat → List Int → Int → List Int → Int → Int → Int → Bool → Option (ByteArray × Int × Int)
  | 0, _, _, _, _, _, _, _ => none
  | k + 1, x0, x1, x7, x8, x9, x10, x47 => if x47 = true then (some ((⟨#[]⟩ : ByteArray), 3, x8)) else (if x9 ≥ 55296 then (stencilref01_wide.j2 k x0 x1 x7 x8 x9 x10 (decide (x9 ≤ 56319))) else (stencilref01_wide.j2 k x0 x1 x7 x8 x9 x10 false))
def stencilref01_wide.j2 : Nat → List Int → Int → List Int → Int → Int → Int → Bool → Option (ByteArray × Int × Int)
  | 0, _, _, _, _, _, _, _ => none
  | k + 1, x0, x1, x7, x8, x9, x10, x54 => if x54 = true then (if (wrap64 (x8 + 3)) ≥ (x0.length : Int) then (some ((⟨#[]⟩ : ByteArray), 3, x8)) else (if 0 ≤ (wrap64 ((wrap64 (x8 + 2)) + x1)) then (if (wrap64 ((wrap64 (x8 + 2)) + x1)) < (x0.length : Int) then (if 0 ≤ (wrap64 ((wrap64 (x8 + 3)) - x1)) then (if (wrap64 ((wrap64 (x8 + 3)) - x1)) < (x0.length : Int) then (if (Go.bits .or .i32 (wrap32 ((wrap32 (rd x0 (wrap64 ((wrap64 (x8 + 2)) + x1)))) * 256)) (wrap32 (rd x0 (wrap64 ((wrap64 (x8 + 3)) - x1))))) < 56320 then (stencilref01_wide.j3 k x0 x1 x7 x8 x9 x10 (Go.bits .or .i32 (wrap32 ((wrap32 (rd x0 (wrap64 ((wrap64 (x8 + 2)) + x1)))) * 256)) (wrap32 (rd x0 (wrap64 ((wrap64 (x8 + 3)) - x1))))) true) else (stencilref01_wide.j3 k x0 x1 x7 x8 x9 x10 (Go.bits .or .i32 (wrap32 ((wrap32 (rd x0 (wrap64 ((wrap64 (x8 + 2)) + x1)))) * 256)) (wrap32 (rd x0 (wrap64 ((wrap64 (x8 + 3)) - x1))))) (decide ((Go.bits .or .i32 (wrap32 ((wrap32 (rd x0 (wrap64 ((wrap64 (x8 + 2)) + x1)))) * 256)) (wrap32 (rd x0 (wrap64 ((wrap64 (x8 + 3)) - x1))))) > 57343)))) else (none)) else (none)) else (none)) else (none))) else ((stencilref01_IsChar.f x9).bind fun t136 => (if t136 = true then (if x7.length + (Utf8.encode x9).size < 140737488355328 then (stencilref01_wide.l0 k x0 x1 (x7 ++ bytesOf (Utf8.encode x9)) (wrap64 (x8 + 2))) else (none)) else (some ((⟨#[]⟩ : ByteArray), 4, x10))))
def stencilref01_wide.j3 : Nat → List Int → Int → List Int → Int → Int → Int → Int → Bool → Option (ByteArray × Int × Int)
  | 0, _, _, _, _, _, _, _, _ => none
  | k + 1, x0, x1, x7, x8, x9, x10, x11, x84 => if x84 = true then (some ((⟨#[]⟩ : ByteArray), 3, x8)) else ((stencilref01_IsChar.f (wrap32 ((wrap32 (65536 + (wrap32 ((wrap32 (x9 - 55296)) * 1024)))) + (wrap32 (x11 - 56320))))).bind fun t132 => (if t132 = true then (if x7.length + (Utf8.encode (wrap32 ((wrap32 (65536 + (wrap32 ((wrap32 (x9 - 55296)) * 1024)))) + (wrap32 (x11 - 56320))))).size < 140737488355328 then (stencilref01_wide.l0 k x0 x1 (x7 ++ bytesOf (Utf8.encode (wrap32 ((wrap32 (65536 + (wrap32 ((wrap32 (x9 - 55296)) * 1024)))) + (wrap32 (x11 - 56320)))))) (wrap64 ((wrap64 (x8 + 2)) + 2))) else (none)) else (some ((⟨#[]⟩ : ByteArray), 4, x10))))
end
def stencilref01_wide.f (k : Nat) (l0 : List Int) (a1 : Int) : Option (ByteArray × Int × Int) := stencilref01_wide.l0 k l0 a1 ([] : List Int) 2
theorem stencilref01_wide.mono_l : ∀ k, (∀ y0 y1 y2 y3, LeO (stencilref01_wide.l0 k y0 y1 y2 y3) (stencilref01_wide.l0 (k + 1) y0 y1 y2 y3)) ∧ (∀ y0 y1 y2 y3 y4 y5 y6, LeO (stencilref01_wide.j1 k y0 y1 y2 y3 y4 y5 y6) (stencilref01_wide.j1 (k + 1) y0 y1 y2 y3 y4 y5 y6)) ∧ (∀ y0 y1 y2 y3 y4 y5 y6, LeO (stencilref01_wide.j2 k y0 y1 y2 y3 y4 y5 y6) (stencilref01_wide.j2 (k + 1) y0 y1 y2 y3 y4 y5 y6)) ∧ (∀ y0 y1 y2 y3 y4 y5 y6 y7, LeO (stencilref01_wide.j3 k y0 y1 y2 y3 y4 y5 y6 y7) (stencilref01_wide.j3 (k + 1) y0 y1 y2 y3 y4 y5 y6 y7))
  | 0 => ⟨fun _ _ _ _ r h => by simp [stencilref01_wide.l0] at h, fun _ _ _ _ _ _ _ r h => by simp [stencilref01_wide.j1] at h, fun _ _ _ _ _ _ _ r h => by simp [stencilref01_wide.j2] at h, fun _ _ _ _ _ _ _ _ r h => by simp [stencilref01_wide.j3] at h⟩
  | k + 1 => by
    obtain ⟨ih0, ih1, ih2, ih3⟩ := stencilref01_wide.mono_l k
    refine ⟨?_, ?_, ?_, ?_⟩
    · intro y0 y1 y2 y3
      unfold stencilref01_wide.l0
      repeat' first
      | (with_reducible exact ih0 _ _ _ _)
      | (with_reducible exact ih1 _ _ _ _ _ _ _)
      | (with_reducible exact ih2 _ _ _ _ _ _ _)
      | (with_reducible exact ih3 _ _ _ _ _ _ _ _)
      | (with_reducible exact stencilref01_ends.mono _ _)
      | (with_reducible exact LeO.refl _)
      | (with_reducible exact LeO.none _)
      | (with_reducible refine LeO.ite ?_ ?_)
      | (with_reducible refine LeO.bind ?_ (fun _ => ?_))
      | exact ih0 _ _ _ _
      | exact ih1 _ _ _ _ _ _ _
      | exact ih2 _ _ _ _ _ _ _
      | exact ih3 _ _ _ _ _ _ _ _
      | exact stencilref01_ends.mono _ _
      | exact LeO.none _
      | refine LeO.ite ?_ ?_
      | refine LeO.bind ?_ (fun _ => ?_)
    · intro y0 y1 y2 y3 y4 y5 y6
      unfold stencilref01_wide.j1
      repeat' first
      | (with_reducible exact ih0 _ _ _ _)
      | (with_reducible exact ih1 _ _ _ _ _ _ _)
      | (with_reducible exact ih2 _ _ _ _ _ _ _)
      | (with_reducible exact ih3 _ _ _ _ _ _ _ _)
      | (with_reducible exact stencilref01_ends.mono _ _)
      | (with_reducible exact LeO.refl _)
      | (with_reducible exact LeO.none _)
      | (with_reducible refine LeO.ite ?_ ?_)
      | (with_reducible refine LeO.bind ?_ (fun _ => ?_))
      | exact ih0 _ _ _ _
      | exact ih1 _ _ _ _ _ _ _
      | exact ih2 _ _ _ _ _ _ _
      | exact ih3 _ _ _ _ _ _ _ _
      | exact stencilref01_ends.mono _ _
      | exact LeO.none _
      | refine LeO.ite ?_ ?_
      | refine LeO.bind ?_ (fun _ => ?_)
    · intro y0 y1 y2 y3 y4 y5 y6
      unfold stencilref01_wide.j2
      repeat' first
      | (with_reducible exact ih0 _ _ _ _)
      | (with_reducible exact ih1 _ _ _ _ _ _ _)
      | (with_reducible exact ih2 _ _ _ _ _ _ _)
      | (with_reducible exact ih3 _ _ _ _ _ _ _ _)
      | (with_reducible exact stencilref01_ends.mono _ _)
      | (with_reducible exact LeO.refl _)
      | (with_reducible exact LeO.none _)
      | (with_reducible refine LeO.ite ?_ ?_)
      | (with_reducible refine LeO.bind ?_ (fun _ => ?_))
      | exact ih0 _ _ _ _
      | exact ih1 _ _ _ _ _ _ _
      | exact ih2 _ _ _ _ _ _ _
      | exact ih3 _ _ _ _ _ _ _ _
      | exact stencilref01_ends.mono _ _
      | exact LeO.none _
      | refine LeO.ite ?_ ?_
      | refine LeO.bind ?_ (fun _ => ?_)
    · intro y0 y1 y2 y3 y4 y5 y6 y7
      unfold stencilref01_wide.j3
      repeat' first
      | (with_reducible exact ih0 _ _ _ _)
      | (with_reducible exact ih1 _ _ _ _ _ _ _)
      | (with_reducible exact ih2 _ _ _ _ _ _ _)
      | (with_reducible exact ih3 _ _ _ _ _ _ _ _)
      | (with_reducible exact stencilref01_ends.mono _ _)
      | (with_reducible exact LeO.refl _)
      | (with_reducible exact LeO.none _)
      | (with_reducible refine LeO.ite ?_ ?_)
      | (with_reducible refine LeO.bind ?_ (fun _ => ?_))
      | exact ih0 _ _ _ _
      | exact ih1 _ _ _ _ _ _ _
      | exact ih2 _ _ _ _ _ _ _
      | exact ih3 _ _ _ _ _ _ _ _
      | exact stencilref01_ends.mono _ _
      | exact LeO.none _
      | refine LeO.ite ?_ ?_
      | refine LeO.bind ?_ (fun _ => ?_)
theorem stencilref01_wide.mono : ∀ a0 a1 k, LeO (stencilref01_wide.f k a0 a1) (stencilref01_wide.f (k + 1) a0 a1) := by
  intro a0 a1 k
  obtain ⟨ih0, ih1, ih2, ih3⟩ := stencilref01_wide.mono_l k
  unfold stencilref01_wide.f
  repeat' first
      | (with_reducible exact ih0 _ _ _ _)
      | (with_reducible exact ih1 _ _ _ _ _ _ _)
      | (with_reducible exact ih2 _ _ _ _ _ _ _)
      | (with_reducible exact ih3 _ _ _ _ _ _ _ _)
      | (with_reducible exact stencilref01_ends.mono _ _)
      | (with_reducible exact LeO.refl _)
      | (with_reducible exact LeO.none _)
      | (with_reducible refine LeO.ite ?_ ?_)
      | (with_reducible refine LeO.bind ?_ (fun _ => ?_))
      | exact ih0 _ _ _ _
      | exact ih1 _ _ _ _ _ _ _
      | exact ih2 _ _ _ _ _ _ _
      | exact ih3 _ _ _ _ _ _ _ _
      | exact stencilref01_ends.mono _ _
      | exact LeO.none _
      | refine LeO.ite ?_ ?_
      | refine LeO.bind ?_ (fun _ => ?_)
set_option maxHeartbeats 8000000 in
set_option maxRecDepth 100000 in
theorem stencilref01_wide.calls (k : Nat) (A0 : Option Addr) (c0 : Nat) (l0 : List Int) (a1 : Int) (r1 : ByteArray) (r2 : Int) (r3 : Int) (w : World) (hr0 : Kd.C (Kd.int .u8) w A0 l0.length l0) (hc0 : l0.length ≤ c0) (HLD : Laid w) (h : stencilref01_wide.f k l0 a1 = some (r1, r2, r3)) :
    Calls Tryd.prog 61 #[.slice A0 l0.length c0, .int .i64 a1] w fun e w' => e = .returned (.tuple #[.string r1, .int .i64 r2, .int .i64 r3]) ∧ Below w.heap.size w w' := by
  have HR0 := Aside0.mk hr0
  have HC0 := Aside0.mk hc0
  clear hr0 hc0
  have HB := Aside0.mk (Below.refl w.heap.size w)
  have H : (stencilref01_wide.l0 k l0 a1 ([] : List Int) 2) = some (r1, r2, r3) := h
  clear h
  have H' := Aside0.mk H
  clear H
  go_enter Tryd.func61, Tryd.ntmps61
  go_wp2
  repeat (go_quiet (fail); try go_wp2)
  go_loopg [7, 8] k (fun kq v7 v8 w' => ∃ (x7_1 : List Int) (x8_1 : Int), v8 = .int .i64 x8_1 ∧ Aside0 (stencilref01_wide.l0 kq l0 a1 x7_1 x8_1 = some (r1, r2, r3)) ∧ Aside0 (kq ≤ k) ∧ Aside0 (Kd.R (Kd.int .u8) 5 w' w.heap.size (fun _ => True) v7 x7_1) ∧ Aside0 (Below w.heap.size w w'))
  case atStart => exact ⟨(([] : List Int)), (2), (by first | rfl | (simp; done) | (simp [*]; done)), H', ⟨Nat.le_refl _⟩, ⟨by first | exact Kd.R_nil _ _ _ _ _ | exact Kd.N_nil _ _ _ _ _ | exact Kd.V_nil _ _ _ _ _ | exact Kd.Q_nil _ _ _ _ _ | exact Kd.S_nil _ _ _ _ _⟩, ⟨by repeat (first | (with_reducible first | exact HB.out | apply below_alloc | apply pw_below_drewN | apply below_drew1) | exact HB.out)⟩⟩
  case round =>
    clear H'
    try clear p2
    obtain ⟨x7_1, x8_1, rfl, HA, HK1, HO_7, HB⟩ := hrel
    cases gk with
    | zero => exact absurd HA.out (by simp [stencilref01_wide.l0])
    | succ k1 =>
      have H := HA.out
      clear HA
      simp only [stencilref01_wide.l0] at H
      by_cases c3 : x8_1 < (l0.length : Int)
      · rw [if_pos c3] at H
        have c3b0 : decide (x8_1 < (l0.length : Int)) = true := decide_eq_true c3
        clear c3
        by_cases c4 : (wrap64 (x8_1 + 1)) ≥ (l0.length : Int)
        · rw [if_pos c4] at H
          have c4b0 : decide ((l0.length : Int) ≤ (wrap64 (x8_1 + 1))) = true := decide_eq_true c4
          clear c4
          simp only [Option.some.injEq, Prod.mk.injEq] at H
          obtain ⟨rfl, rfl, rfl⟩ := H
          go_wp2
          repeat (go_quiet (fail); try go_wp2)
          go_ret3
          exact ⟨by first | rfl | (simp [errW_none, errW_some] <;> rfl) | (simp [*, errW_none, errW_some] <;> rfl), by repeat (first | (with_reducible first | exact HB.out | apply below_alloc | apply pw_below_drewN | apply below_drew1) | exact HB.out)⟩
        · rw [if_neg c4] at H
          have c4b0 : decide ((l0.length : Int) ≤ (wrap64 (x8_1 + 1))) = false := decide_eq_false c4
          clear c4
          obtain ⟨ji5, hji5⟩ : ∃ j_ : Int, (wrap64 (x8_1 + a1)) = j_ := ⟨_, rfl⟩
          replace H : (if 0 ≤ (ji5) then (if (ji5) < (l0.length : Int) then (if 0 ≤ (wrap64 ((wrap64 (x8_1 + 1)) - a1)) then (if (wrap64 ((wrap64 (x8_1 + 1)) - a1)) < (l0.length : Int) then (if (Go.bits .or .i32 (wrap32 ((wrap32 (rd l0 (ji5))) * 256)) (wrap32 (rd l0 (wrap64 ((wrap64 (x8_1 + 1)) - a1))))) ≥ 56320 then (stencilref01_wide.j1 k1 l0 a1 x7_1 x8_1 (Go.bits .or .i32 (wrap32 ((wrap32 (rd l0 (ji5))) * 256)) (wrap32 (rd l0 (wrap64 ((wrap64 (x8_1 + 1)) - a1))))) x8_1 (decide ((Go.bits .or .i32 (wrap32 ((wrap32 (rd l0 (ji5))) * 256)) (wrap32 (rd l0 (wrap64 ((wrap64 (x8_1 + 1)) - a1))))) ≤ 57343))) else (stencilref01_wide.j1 k1 l0 a1 x7_1 x8_1 (Go.bits .or .i32 (wrap32 ((wrap32 (rd l0 (ji5))) * 256)) (wrap32 (rd l0 (wrap64 ((wrap64 (x8_1 + 1)) - a1))))) x8_1 false)) else (none)) else (none)) else (none)) else (none)) = some (r1, r2, r3) := by first | (rw [hji5] at H; exact H) | (simp only [hji5] at H ⊢; exact H)
          have hji5w : (IntKind.i64.wrap (x8_1 + a1)) = ji5 := (i64_w _).trans hji5
          by_cases c6 : 0 ≤ (ji5)
          · rw [if_pos c6] at H
            have c6b0 : decide (0 ≤ (ji5)) = true := decide_eq_true c6
            clear c6
            by_cases c7 : (ji5) < (l0.length : Int)
            · rw [if_pos c7] at H
              have c7b0 : decide ((ji5) < (l0.length : Int)) = true := decide_eq_true c7
              clear c7
              obtain ⟨ji8, hji8⟩ : ∃ j_ : Int, (wrap64 ((wrap64 (x8_1 + 1)) - a1)) = j_ := ⟨_, rfl⟩
              replace H : (if 0 ≤ (ji8) then (if (ji8) < (l0.length : Int) then (if (Go.bits .or .i32 (wrap32 ((wrap32 (rd l0 (ji5))) * 256)) (wrap32 (rd l0 (ji8)))) ≥ 56320 then (stencilref01_wide.j1 k1 l0 a1 x7_1 x8_1 (Go.bits .or .i32 (wrap32 ((wrap32 (rd l0 (ji5))) * 256)) (wrap32 (rd l0 (ji8)))) x8_1 (decide ((Go.bits .or .i32 (wrap32 ((wrap32 (rd l0 (ji5))) * 256)) (wrap32 (rd l0 (ji8)))) ≤ 57343))) else (stencilref01_wide.j1 k1 l0 a1 x7_1 x8_1 (Go.bits .or .i32 (wrap32 ((wrap32 (rd l0 (ji5))) * 256)) (wrap32 (rd l0 (ji8)))) x8_1 false)) else (none)) else (none)) = some (r1, r2, r3) := by first | (rw [hji8] at H; exact H) | (simp only [hji8] at H ⊢; exact H)
              have hji8w : (IntKind.i64.wrap ((wrap64 (x8_1 + 1)) - a1)) = ji8 := (i64_w _).trans hji8
              by_cases c9 : 0 ≤ (ji8)
              · rw [if_pos c9] at H
                have c9b0 : decide (0 ≤ (ji8)) = true := decide_eq_true c9
                clear c9
                by_cases c10 : (ji8) < (l0.length : Int)
                · rw [if_pos c10] at H
                  have c10b0 : decide ((ji8) < (l0.length : Int)) = true := decide_eq_true c10
                  clear c10
                  have HC11 := Aside0.mk H
                  clear H
                  have p128 : 0 ≤ ((ji5) : Int) := of_decide_eq_true (by first | (with_reducible assumption) | assumption)
                  have q128 : (ji5) < (l0.length : Int) := of_decide_eq_true (by first | (with_reducible assumption) | assumption)
                  obtain ⟨ad128, e128, hx128_0⟩ := Kd.at_int HR0.out (ji5) p128 q128
                  cases e128
                  replace hx128_0 := (HB.out.cell (World.block_lt_of_cell? w _ hx128_0)).trans hx128_0
                  replace p128 := eq_true p128
                  replace q128 := eq_true q128
                  have p129 : 0 ≤ ((ji8) : Int) := of_decide_eq_true (by first | (with_reducible assumption) | assumption)
                  have q129 : (ji8) < (l0.length : Int) := of_decide_eq_true (by first | (with_reducible assumption) | assumption)
                  obtain ⟨ad129, e129, hx129_0⟩ := Kd.at_int HR0.out (ji8) p129 q129
                  obtain rfl : ad128 = ad129 := (by injection e129)
                  replace hx129_0 := (HB.out.cell (World.block_lt_of_cell? w _ hx129_0)).trans hx129_0
                  replace p129 := eq_true p129
                  replace q129 := eq_true q129
                  go_upto_region 9 with (fail)
                  repeat (go_quiet (fail); go_upto_region 9 with (fail))
                  go_cut [47] (fun v47 wc => ∃ (kq : Nat) (x47_10 : Bool), v47 = .bool x47_10 ∧ Aside0 (stencilref01_wide.j1 kq l0 a1 x7_1 x8_1 (Go.bits .or .i32 (wrap32 ((wrap32 (rd l0 (ji5))) * 256)) (wrap32 (rd l0 (ji8)))) x8_1 x47_10 = some (r1, r2, r3)) ∧ Aside0 (kq ≤ k1) ∧ Aside0 (Kd.R (Kd.int .u8) 5 wc w.heap.size (fun _ => True) u7 x7_1) ∧ Aside0 (Below w.heap.size w wc))
                  case first =>
                    have H := HC11.out
                    clear HC11
                    by_cases c12 : (Go.bits .or .i32 (wrap32 ((wrap32 (rd l0 (ji5))) * 256)) (wrap32 (rd l0 (ji8)))) ≥ 56320
                    · rw [if_pos c12] at H
                      have c12b0 : decide (56320 ≤ (Go.bits .or .i32 (wrap32 ((wrap32 (rd l0 (ji5))) * 256)) (wrap32 (rd l0 (ji8))))) = true := decide_eq_true c12
                      clear c12
                      (first | rw [c12b0] | (simp only [i64_w, i32_w]; rw [c12b0]) | skip)
                      have H' := Aside0.mk H
                      clear H
                      go_wp2
                      repeat (go_quiet (fail); try go_wp2)
                      go_meet
                      case rel => exact ⟨_, (decide ((Go.bits .or .i32 (wrap32 ((wrap32 (rd l0 (ji5))) * 256)) (wrap32 (rd l0 (ji8)))) ≤ 57343)), (by first | rfl | (simp; done) | (simp only [← hji5, ← hji8] <;> (first | rfl | simp)) | (simp [*]; done)), H', ⟨by have := HK1.out; first | omega | exact Nat.le_refl _⟩, ⟨by (with_reducible repeat (first | apply Kd.R_alloc | apply Kd.R_drewN | apply Kd.R_drew)); exact HO_7.out⟩, ⟨by repeat (first | (with_reducible first | exact HB.out | apply below_alloc | apply pw_below_drewN | apply below_drew1) | exact HB.out)⟩⟩
                    · rw [if_neg c12] at H
                      have c12b0 : decide (56320 ≤ (Go.bits .or .i32 (wrap32 ((wrap32 (rd l0 (ji5))) * 256)) (wrap32 (rd l0 (ji8))))) = false := decide_eq_false c12
                      clear c12
                      (first | rw [c12b0] | (simp only [i64_w, i32_w]; rw [c12b0]) | skip)
                      have H' := Aside0.mk H
                      clear H
                      go_wp2
                      repeat (go_quiet (fail); try go_wp2)
                      go_meet
                      case rel => exact ⟨_, (false), (by first | rfl | (simp; done) | (simp [*]; done)), H', ⟨by have := HK1.out; first | omega | exact Nat.le_refl _⟩, ⟨by (with_reducible repeat (first | apply Kd.R_alloc | apply Kd.R_drewN | apply Kd.R_drew)); exact HO_7.out⟩, ⟨by repeat (first | (with_reducible first | exact HB.out | apply below_alloc | apply pw_below_drewN | apply below_drew1) | exact HB.out)⟩⟩
                  case rest =>
                    clear HC11
                    try clear c1
                    try clear p1
                    try clear q1
                    try clear hx1
                    try clear p2
                    try clear c3
                    try clear c3b0
                    try clear p3
                    try clear c4
                    try clear c4b0
                    try clear c6
                    try clear c6b0
                    try clear p6
                    try clear c7
                    try clear c7b0
                    try clear c9
                    try clear c9b0
                    try clear c10
                    try clear c10b0
                    try clear c12
                    try clear c12b0
                    try clear p12
                    try clear q12
                    try clear hx12
                    try clear hx128_0
                    try clear hx129_0
                    try clear p128
                    try clear p129
                    try clear p2
                    try clear q128
                    try clear q129
                    obtain ⟨kq, x47_10, rfl, HA, HJ10, HO_7, HB⟩ := hcut
                    cases kq with
                    | zero => exact absurd HA.out (by simp [stencilref01_wide.j1])
                    | succ kj10 =>
                      have H := HA.out
                      clear HA
                      simp only [stencilref01_wide.j1] at H
                      by_cases c13 : x47_10 = true
                      · subst c13
                        have H1 : (some ((⟨#[]⟩ : ByteArray), 3, x8_1)) = some (r1, r2, r3) := by rw [if_pos rfl] at H; exact H
                        clear H
                        have H := H1
                        clear H1
                        simp only [Option.some.injEq, Prod.mk.injEq] at H
                        obtain ⟨rfl, rfl, rfl⟩ := H
                        go_wp2
                        repeat (go_quiet (fail); try go_wp2)
                        go_ret3
                        exact ⟨by first | rfl | (simp [errW_none, errW_some] <;> rfl) | (simp only [← hji5, ← hji8]; first | rfl | (simp [errW_none, errW_some] <;> rfl)) | (simp [*, errW_none, errW_some] <;> rfl), by repeat (first | (with_reducible first | exact HB.out | apply below_alloc | apply pw_below_drewN | apply below_drew1) | exact HB.out)⟩
                      · replace c13 := Bool.eq_false_iff.mpr c13
                        subst c13
                        have H1 : (if (Go.bits .or .i32 (wrap32 ((wrap32 (rd l0 (ji5))) * 256)) (wrap32 (rd l0 (ji8)))) ≥ 55296 then (stencilref01_wide.j2 kj10 l0 a1 x7_1 x8_1 (Go.bits .or .i32 (wrap32 ((wrap32 (rd l0 (ji5))) * 256)) (wrap32 (rd l0 (ji8)))) x8_1 (decide ((Go.bits .or .i32 (wrap32 ((wrap32 (rd l0 (ji5))) * 256)) (wrap32 (rd l0 (ji8)))) ≤ 56319))) else (stencilref01_wide.j2 kj10 l0 a1 x7_1 x8_1 (Go.bits .or .i32 (wrap32 ((wrap32 (rd l0 (ji5))) * 256)) (wrap32 (rd l0 (ji8)))) x8_1 false)) = some (r1, r2, r3) := by rw [if_neg (show ¬ (false = true) by decide)] at H; exact H
                        clear H
                        have H := H1
                        clear H1
                        have HC14 := Aside0.mk H
                        clear H
                        go_upto_region 11 with (fail)
                        repeat (go_quiet (fail); go_upto_region 11 with (fail))
                        go_cut [54] (fun v54 wc => ∃ (kq : Nat) (x54_13 : Bool), v54 = .bool x54_13 ∧ Aside0 (stencilref01_wide.j2 kq l0 a1 x7_1 x8_1 (Go.bits .or .i32 (wrap32 ((wrap32 (rd l0 (ji5))) * 256)) (wrap32 (rd l0 (ji8)))) x8_1 x54_13 = some (r1, r2, r3)) ∧ Aside0 (kq ≤ kj10) ∧ Aside0 (Kd.R (Kd.int .u8) 5 wc w.heap.size (fun _ => True) u7 x7_1) ∧ Aside0 (Below w.heap.size w wc))
                        case first =>
                          have H := HC14.out
                          clear HC14
                          by_cases c15 : (Go.bits .or .i32 (wrap32 ((wrap32 (rd l0 (ji5))) * 256)) (wrap32 (rd l0 (ji8)))) ≥ 55296
                          · rw [if_pos c15] at H
                            have c15b0 : decide (55296 ≤ (Go.bits .or .i32 (wrap32 ((wrap32 (rd l0 (ji5))) * 256)) (wrap32 (rd l0 (ji8))))) = true := decide_eq_true c15
                            clear c15
                            (first | rw [c15b0] | (simp only [i64_w, i32_w]; rw [c15b0]) | skip)
                            have H' := Aside0.mk H
                            clear H
                            go_wp2
                            repeat (go_quiet (fail); try go_wp2)
                            go_meet
                            case rel => exact ⟨_, (decide ((Go.bits .or .i32 (wrap32 ((wrap32 (rd l0 (ji5))) * 256)) (wrap32 (rd l0 (ji8)))) ≤ 56319)), (by first | rfl | (simp; done) | (simp only [← hji5, ← hji8] <;> (first | rfl | simp)) | (simp [*]; done)), H', ⟨by have := HK1.out; have := HJ10.out; first | omega | exact Nat.le_refl _⟩, ⟨by (with_reducible repeat (first | apply Kd.R_alloc | apply Kd.R_drewN | apply Kd.R_drew)); exact HO_7.out⟩, ⟨by repeat (first | (with_reducible first | exact HB.out | apply below_alloc | apply pw_below_drewN | apply below_drew1) | exact HB.out)⟩⟩
                          · rw [if_neg c15] at H
                            have c15b0 : decide (55296 ≤ (Go.bits .or .i32 (wrap32 ((wrap32 (rd l0 (ji5))) * 256)) (wrap32 (rd l0 (ji8))))) = false := decide_eq_false c15
                            clear c15
                            (first | rw [c15b0] | (simp only [i64_w, i32_w]; rw [c15b0]) | skip)
                            have H' := Aside0.mk H
                            clear H
                            go_wp2
                            repeat (go_quiet (fail); try go_wp2)
                            go_meet
                            case rel => exact ⟨_, (false), (by first | rfl | (simp; done) | (simp [*]; done)), H', ⟨by have := HK1.out; have := HJ10.out; first | omega | exact Nat.le_refl _⟩, ⟨by (with_reducible repeat (first | apply Kd.R_alloc | apply Kd.R_drewN | apply Kd.R_drew)); exact HO_7.out⟩, ⟨by repeat (first | (with_reducible first | exact HB.out | apply below_alloc | apply pw_below_drewN | apply below_drew1) | exact HB.out)⟩⟩
                        case rest =>
                          clear HC14
                          try clear c1
                          try clear p1
                          try clear q1
                          try clear hx1
                          try clear p2
                          try clear c3
                          try clear c3b0
                          try clear p3
                          try clear c4
                          try clear c4b0
                          try clear c6
                          try clear c6b0
                          try clear p6
                          try clear c7
                          try clear c7b0
                          try clear c9
                          try clear c9b0
                          try clear c10
                          try clear c10b0
                          try clear c12
                          try clear c12b0
                          try clear p12
                          try clear q12
                          try clear hx12
                          try clear c13
                          try clear c15
                          try clear c15b0
                          try clear hx128_0
                          try clear hx129_0
                          try clear p1
                          try clear p12
                          try clear p128
                          try clear p129
                          try clear p2
                          try clear p3
                          try clear p6
                          try clear q1
                          try clear q12
                          try clear q128
                          try clear q129
                          obtain ⟨kq, x54_13, rfl, HA, HJ13, HO_7, HB⟩ := hcut
                          cases kq with
                          | zero => exact absurd HA.out (by simp [stencilref01_wide.j2])
                          | succ kj13 =>
                            have H := HA.out
                            clear HA
                            simp only [stencilref01_wide.j2] at H
                            by_cases c16 : x54_13 = true
                            · subst c16
                              have H1 : (if (wrap64 (x8_1 + 3)) ≥ (l0.length : Int) then (some ((⟨#[]⟩ : ByteArray), 3, x8_1)) else (if 0 ≤ (wrap64 ((wrap64 (x8_1 + 2)) + a1)) then (if (wrap64 ((wrap64 (x8_1 + 2)) + a1)) < (l0.length : Int) then (if 0 ≤ (wrap64 ((wrap64 (x8_1 + 3)) - a1)) then (if (wrap64 ((wrap64 (x8_1 + 3)) - a1)) < (l0.length : Int) then (if (Go.bits .or .i32 (wrap32 ((wrap32 (rd l0 (wrap64 ((wrap64 (x8_1 + 2)) + a1)))) * 256)) (wrap32 (rd l0 (wrap64 ((wrap64 (x8_1 + 3)) - a1))))) < 56320 then (stencilref01_wide.j3 kj13 l0 a1 x7_1 x8_1 (Go.bits .or .i32 (wrap32 ((wrap32 (rd l0 (ji5))) * 256)) (wrap32 (rd l0 (ji8)))) x8_1 (Go.bits .or .i32 (wrap32 ((wrap32 (rd l0 (wrap64 ((wrap64 (x8_1 + 2)) + a1)))) * 256)) (wrap32 (rd l0 (wrap64 ((wrap64 (x8_1 + 3)) - a1))))) true) else (stencilref01_wide.j3 kj13 l0 a1 x7_1 x8_1 (Go.bits .or .i32 (wrap32 ((wrap32 (rd l0 (ji5))) * 256)) (wrap32 (rd l0 (ji8)))) x8_1 (Go.bits .or .i32 (wrap32 ((wrap32 (rd l0 (wrap64 ((wrap64 (x8_1 + 2)) + a1)))) * 256)) (wrap32 (rd l0 (wrap64 ((wrap64 (x8_1 + 3)) - a1))))) (decide ((Go.bits .or .i32 (wrap32 ((wrap32 (rd l0 (wrap64 ((wrap64 (x8_1 + 2)) + a1)))) * 256)) (wrap32 (rd l0 (wrap64 ((wrap64 (x8_1 + 3)) - a1))))) > 57343)))) else (none)) else (none)) else (none)) else (none))) = some (r1, r2, r3) := by rw [if_pos rfl] at H; exact H
                              clear H
                              have H := H1
                              clear H1
                              by_cases c17 : (wrap64 (x8_1 + 3)) ≥ (l0.length : Int)
                              · rw [if_pos c17] at H
                                have c17b0 : decide ((l0.length : Int) ≤ (wrap64 (x8_1 + 3))) = true := decide_eq_true c17
                                clear c17
                                simp only [Option.some.injEq, Prod.mk.injEq] at H
                                obtain ⟨rfl, rfl, rfl⟩ := H
                                go_wp2
                                repeat (go_quiet (fail); try go_wp2)
                                go_ret3
                                exact ⟨by first | rfl | (simp [errW_none, errW_some] <;> rfl) | (simp only [← hji5, ← hji8]; first | rfl | (simp [errW_none, errW_some] <;> rfl)) | (simp [*, errW_none, errW_some] <;> rfl), by repeat (first | (with_reducible first | exact HB.out | apply below_alloc | apply pw_below_drewN | apply below_drew1) | exact HB.out)⟩
                              · rw [if_neg c17] at H
                                have c17b0 : decide ((l0.length : Int) ≤ (wrap64 (x8_1 + 3))) = false := decide_eq_false c17
                                clear c17
                                obtain ⟨ji18, hji18⟩ : ∃ j_ : Int, (wrap64 ((wrap64 (x8_1 + 2)) + a1)) = j_ := ⟨_, rfl⟩
                                replace H : (if 0 ≤ (ji18) then (if (ji18) < (l0.length : Int) then (if 0 ≤ (wrap64 ((wrap64 (x8_1 + 3)) - a1)) then (if (wrap64 ((wrap64 (x8_1 + 3)) - a1)) < (l0.length : Int) then (if (Go.bits .or .i32 (wrap32 ((wrap32 (rd l0 (ji18))) * 256)) (wrap32 (rd l0 (wrap64 ((wrap64 (x8_1 + 3)) - a1))))) < 56320 then (stencilref01_wide.j3 kj13 l0 a1 x7_1 x8_1 (Go.bits .or .i32 (wrap32 ((wrap32 (rd l0 (ji5))) * 256)) (wrap32 (rd l0 (ji8)))) x8_1 (Go.bits .or .i32 (wrap32 ((wrap32 (rd l0 (ji18))) * 256)) (wrap32 (rd l0 (wrap64 ((wrap64 (x8_1 + 3)) - a1))))) true) else (stencilref01_wide.j3 kj13 l0 a1 x7_1 x8_1 (Go.bits .or .i32 (wrap32 ((wrap32 (rd l0 (ji5))) * 256)) (wrap32 (rd l0 (ji8)))) x8_1 (Go.bits .or .i32 (wrap32 ((wrap32 (rd l0 (ji18))) * 256)) (wrap32 (rd l0 (wrap64 ((wrap64 (x8_1 + 3)) - a1))))) (decide ((Go.bits .or .i32 (wrap32 ((wrap32 (rd l0 (ji18))) * 256)) (wrap32 (rd l0 (wrap64 ((wrap64 (x8_1 + 3)) - a1))))) > 57343)))) else (none)) else (none)) else (none)) else (none)) = some (r1, r2, r3) := by first | (rw [hji18] at H; exact H) | (simp only [hji18] at H ⊢; exact H)
                                have hji18w : (IntKind.i64.wrap ((wrap64 (x8_1 + 2)) + a1)) = ji18 := (i64_w _).trans hji18
                                by_cases c19 : 0 ≤ (ji18)
                                · rw [if_pos c19] at H
                                  have c19b0 : decide (0 ≤ (ji18)) = true := decide_eq_true c19
                                  clear c19
                                  by_cases c20 : (ji18) < (l0.length : Int)
                                  · rw [if_pos c20] at H
                                    have c20b0 : decide ((ji18) < (l0.length : Int)) = true := decide_eq_true c20
                                    clear c20
                                    obtain ⟨ji21, hji21⟩ : ∃ j_ : Int, (wrap64 ((wrap64 (x8_1 + 3)) - a1)) = j_ := ⟨_, rfl⟩
                                    replace H : (if 0 ≤ (ji21) then (if (ji21) < (l0.length : Int) then (if (Go.bits .or .i32 (wrap32 ((wrap32 (rd l0 (ji18))) * 256)) (wrap32 (rd l0 (ji21)))) < 56320 then (stencilref01_wide.j3 kj13 l0 a1 x7_1 x8_1 (Go.bits .or .i32 (wrap32 ((wrap32 (rd l0 (ji5))) * 256)) (wrap32 (rd l0 (ji8)))) x8_1 (Go.bits .or .i32 (wrap32 ((wrap32 (rd l0 (ji18))) * 256)) (wrap32 (rd l0 (ji21)))) true) else (stencilref01_wide.j3 kj13 l0 a1 x7_1 x8_1 (Go.bits .or .i32 (wrap32 ((wrap32 (rd l0 (ji5))) * 256)) (wrap32 (rd l0 (ji8)))) x8_1 (Go.bits .or .i32 (wrap32 ((wrap32 (rd l0 (ji18))) * 256)) (wrap32 (rd l0 (ji21)))) (decide ((Go.bits .or .i32 (wrap32 ((wrap32 (rd l0 (ji18))) * 256)) (wrap32 (rd l0 (ji21)))) > 57343)))) else (none)) else (none)) = some (r1, r2, r3) := by first | (rw [hji21] at H; exact H) | (simp only [hji21] at H ⊢; exact H)
                                    have hji21w : (IntKind.i64.wrap ((wrap64 (x8_1 + 3)) - a1)) = ji21 := (i64_w _).trans hji21
                                    by_cases c22 : 0 ≤ (ji21)
                                    · rw [if_pos c22] at H
                                      have c22b0 : decide (0 ≤ (ji21)) = true := decide_eq_true c22
                                      clear c22
                                      by_cases c23 : (ji21) < (l0.length : Int)
                                      · rw [if_pos c23] at H
                                        have c23b0 : decide ((ji21) < (l0.length : Int)) = true := decide_eq_true c23
                                        clear c23
                                        have HC24 := Aside0.mk H
                                        clear H
                                        have p130 : 0 ≤ ((ji18) : Int) := of_decide_eq_true (by first | (with_reducible assumption) | assumption)
                                        have q130 : (ji18) < (l0.length : Int) := of_decide_eq_true (by first | (with_reducible assumption) | assumption)
                                        obtain ⟨ad130, e130, hx130_0⟩ := Kd.at_int HR0.out (ji18) p130 q130
                                        obtain rfl : ad128 = ad130 := (by injection e130)
                                        replace hx130_0 := (HB.out.cell (World.block_lt_of_cell? w _ hx130_0)).trans hx130_0
                                        replace p130 := eq_true p130
                                        replace q130 := eq_true q130
                                        have p131 : 0 ≤ ((ji21) : Int) := of_decide_eq_true (by first | (with_reducible assumption) | assumption)
                                        have q131 : (ji21) < (l0.length : Int) := of_decide_eq_true (by first | (with_reducible assumption) | assumption)
                                        obtain ⟨ad131, e131, hx131_0⟩ := Kd.at_int HR0.out (ji21) p131 q131
                                        obtain rfl : ad128 = ad131 := (by injection e131)
                                        replace hx131_0 := (HB.out.cell (World.block_lt_of_cell? w _ hx131_0)).trans hx131_0
                                        replace p131 := eq_true p131
                                        replace q131 := eq_true q131
                                        go_upto_region 15 with (fail)
                                        repeat (go_quiet (fail); go_upto_region 15 with (fail))
                                        go_cut [84] (fun v84 wc => ∃ (kq : Nat) (x84_23 : Bool), v84 = .bool x84_23 ∧ Aside0 (stencilref01_wide.j3 kq l0 a1 x7_1 x8_1 (Go.bits .or .i32 (wrap32 ((wrap32 (rd l0 (ji5))) * 256)) (wrap32 (rd l0 (ji8)))) x8_1 (Go.bits .or .i32 (wrap32 ((wrap32 (rd l0 (ji18))) * 256)) (wrap32 (rd l0 (ji21)))) x84_23 = some (r1, r2, r3)) ∧ Aside0 (kq ≤ kj13) ∧ Aside0 (Kd.R (Kd.int .u8) 5 wc w.heap.size (fun _ => True) u7 x7_1) ∧ Aside0 (Below w.heap.size w wc))
                                        case first =>
                                          have H := HC24.out
                                          clear HC24
                                          by_cases c25 : (Go.bits .or .i32 (wrap32 ((wrap32 (rd l0 (ji18))) * 256)) (wrap32 (rd l0 (ji21)))) < 56320
                                          · rw [if_pos c25] at H
                                            have c25b0 : decide ((Go.bits .or .i32 (wrap32 ((wrap32 (rd l0 (ji18))) * 256)) (wrap32 (rd l0 (ji21)))) < 56320) = true := decide_eq_true c25
                                            clear c25
                                            (first | rw [c25b0] | (simp only [i64_w, i32_w]; rw [c25b0]) | skip)
                                            have H' := Aside0.mk H
                                            clear H
                                            go_wp2
                                            repeat (go_quiet (fail); try go_wp2)
                                            go_meet
                                            case rel => exact ⟨_, (true), (by first | rfl | (simp; done) | (simp [*]; done)), H', ⟨by have := HK1.out; have := HJ10.out; have := HJ13.out; first | omega | exact Nat.le_refl _⟩, ⟨by (with_reducible repeat (first | apply Kd.R_alloc | apply Kd.R_drewN | apply Kd.R_drew)); exact HO_7.out⟩, ⟨by repeat (first | (with_reducible first | exact HB.out | apply below_alloc | apply pw_below_drewN | apply below_drew1) | exact HB.out)⟩⟩
                                          · rw [if_neg c25] at H
                                            have c25b0 : decide ((Go.bits .or .i32 (wrap32 ((wrap32 (rd l0 (ji18))) * 256)) (wrap32 (rd l0 (ji21)))) < 56320) = false := decide_eq_false c25
                                            clear c25
                                            (first | rw [c25b0] | (simp only [i64_w, i32_w]; rw [c25b0]) | skip)
                                            have H' := Aside0.mk H
                                            clear H
                                            go_wp2
                                            repeat (go_quiet (fail); try go_wp2)
                                            go_meet
                                            case rel => exact ⟨_, (decide ((Go.bits .or .i32 (wrap32 ((wrap32 (rd l0 (ji18))) * 256)) (wrap32 (rd l0 (ji21)))) > 57343)), (by first | rfl | (simp; done) | (simp only [← hji18, ← hji21] <;> (first | rfl | simp)) | (simp [*]; done)), H', ⟨by have := HK1.out; have := HJ10.out; have := HJ13.out; first | omega | exact Nat.le_refl _⟩, ⟨by (with_reducible repeat (first | apply Kd.R_alloc | apply Kd.R_drewN | apply Kd.R_drew)); exact HO_7.out⟩, ⟨by repeat (first | (with_reducible first | exact HB.out | apply below_alloc | apply pw_below_drewN | apply below_drew1) | exact HB.out)⟩⟩
                                        case rest =>
                                          clear HC24
                                          try clear c1
                                          try clear p1
                                          try clear q1
                                          try clear hx1
                                          try clear c2
                                          try clear p2
                                          try clear c3
                                          try clear c3b0
                                          try clear p3
                                          try clear c4
                                          try clear c4b0
                                          try clear c6
                                          try clear c6b0
                                          try clear p6
                                          try clear c7
                                          try clear c7b0
                                          try clear c9
                                          try clear c9b0
                                          try clear c10
                                          try clear c10b0
                                          try clear c12
                                          try clear c12b0
                                          try clear p12
                                          try clear q12
                                          try clear hx12
                                          try clear c13
                                          try clear p13
                                          try clear q13
                                          try clear hx13
                                          try clear c15
                                          try clear c15b0
                                          try clear c16
                                          try clear c17
                                          try clear c17b0
                                          try clear c19
                                          try clear c19b0
                                          try clear c20
                                          try clear c20b0
                                          try clear c22
                                          try clear c22b0
                                          try clear c23
                                          try clear c23b0
                                          try clear c25
                                          try clear c25b0
                                          try clear hx128_0
                                          try clear hx129_0
                                          try clear hx130_0
                                          try clear hx131_0
                                          try clear p1
                                          try clear p12
                                          try clear p128
                                          try clear p129
                                          try clear p130
                                          try clear p131
                                          try clear p2
                                          try clear p3
                                          try clear p6
                                          try clear q1
                                          try clear q12
                                          try clear q128
                                          try clear q129
                                          try clear q130
                                          try clear q131
                                          obtain ⟨kq, x84_23, rfl, HA, HJ23, HO_7, HB⟩ := hcut
                                          cases kq with
                                          | zero => exact absurd HA.out (by simp [stencilref01_wide.j3])
                                          | succ kj23 =>
                                            have H := HA.out
                                            clear HA
                                            simp only [stencilref01_wide.j3] at H
                                            by_cases c26 : x84_23 = true
                                            · subst c26
                                              have H1 : (some ((⟨#[]⟩ : ByteArray), 3, x8_1)) = some (r1, r2, r3) := by rw [if_pos rfl] at H; exact H
                                              clear H
                                              have H := H1
                                              clear H1
                                              simp only [Option.some.injEq, Prod.mk.injEq] at H
                                              obtain ⟨rfl, rfl, rfl⟩ := H
                                              go_wp2
                                              repeat (go_quiet (fail); try go_wp2)
                                              go_ret3
                                              exact ⟨by first | rfl | (simp [errW_none, errW_some] <;> rfl) | (simp only [← hji5, ← hji8, ← hji18, ← hji21]; first | rfl | (simp [errW_none, errW_some] <;> rfl)) | (simp [*, errW_none, errW_some] <;> rfl), by repeat (first | (with_reducible first | exact HB.out | apply below_alloc | apply pw_below_drewN | apply below_drew1) | exact HB.out)⟩
                                            · replace c26 := Bool.eq_false_iff.mpr c26
                                              subst c26
                                              have H1 : ((stencilref01_IsChar.f (wrap32 ((wrap32 (65536 + (wrap32 ((wrap32 ((Go.bits .or .i32 (wrap32 ((wrap32 (rd l0 (ji5))) * 256)) (wrap32 (rd l0 (ji8)))) - 55296)) * 1024)))) + (wrap32 ((Go.bits .or .i32 (wrap32 ((wrap32 (rd l0 (ji18))) * 256)) (wrap32 (rd l0 (ji21)))) - 56320))))).bind fun t132 => (if t132 = true then (if x7_1.length + (Utf8.encode (wrap32 ((wrap32 (65536 + (wrap32 ((wrap32 ((Go.bits .or .i32 (wrap32 ((wrap32 (rd l0 (ji5))) * 256)) (wrap32 (rd l0 (ji8)))) - 55296)) * 1024)))) + (wrap32 ((Go.bits .or .i32 (wrap32 ((wrap32 (rd l0 (ji18))) * 256)) (wrap32 (rd l0 (ji21)))) - 56320))))).size < 140737488355328 then (stencilref01_wide.l0 kj23 l0 a1 (x7_1 ++ bytesOf (Utf8.encode (wrap32 ((wrap32 (65536 + (wrap32 ((wrap32 ((Go.bits .or .i32 (wrap32 ((wrap32 (rd l0 (ji5))) * 256)) (wrap32 (rd l0 (ji8)))) - 55296)) * 1024)))) + (wrap32 ((Go.bits .or .i32 (wrap32 ((wrap32 (rd l0 (ji18))) * 256)) (wrap32 (rd l0 (ji21)))) - 56320)))))) (wrap64 ((wrap64 (x8_1 + 2)) + 2))) else (none)) else (some ((⟨#[]⟩ : ByteArray), 4, x8_1)))) = some (r1, r2, r3) := by rw [if_neg (show ¬ (false = true) by decide)] at H; exact H
                                              clear H
                                              have H := H1
                                              clear H1
                                              replace H := Option.bind_eq_some_iff.mp H
                                              obtain ⟨t132, A270, H⟩ := H
                                              replace H : (if t132 = true then (if x7_1.length + (Utf8.encode (wrap32 ((wrap32 (65536 + (wrap32 ((wrap32 ((Go.bits .or .i32 (wrap32 ((wrap32 (rd l0 (ji5))) * 256)) (wrap32 (rd l0 (ji8)))) - 55296)) * 1024)))) + (wrap32 ((Go.bits .or .i32 (wrap32 ((wrap32 (rd l0 (ji18))) * 256)) (wrap32 (rd l0 (ji21)))) - 56320))))).size < 140737488355328 then (stencilref01_wide.l0 kj23 l0 a1 (x7_1 ++ bytesOf (Utf8.encode (wrap32 ((wrap32 (65536 + (wrap32 ((wrap32 ((Go.bits .or .i32 (wrap32 ((wrap32 (rd l0 (ji5))) * 256)) (wrap32 (rd l0 (ji8)))) - 55296)) * 1024)))) + (wrap32 ((Go.bits .or .i32 (wrap32 ((wrap32 (rd l0 (ji18))) * 256)) (wrap32 (rd l0 (ji21)))) - 56320)))))) (wrap64 ((wrap64 (x8_1 + 2)) + 2))) else (none)) else (some ((⟨#[]⟩ : ByteArray), 4, x8_1))) = some (r1, r2, r3) := H
                                              have A27 := Aside0.mk A270
                                              clear A270
                                              by_cases c28 : t132 = true
                                              · subst c28
                                                have H1 : (if x7_1.length + (Utf8.encode (wrap32 ((wrap32 (65536 + (wrap32 ((wrap32 ((Go.bits .or .i32 (wrap32 ((wrap32 (rd l0 (ji5))) * 256)) (wrap32 (rd l0 (ji8)))) - 55296)) * 1024)))) + (wrap32 ((Go.bits .or .i32 (wrap32 ((wrap32 (rd l0 (ji18))) * 256)) (wrap32 (rd l0 (ji21)))) - 56320))))).size < 140737488355328 then (stencilref01_wide.l0 kj23 l0 a1 (x7_1 ++ bytesOf (Utf8.encode (wrap32 ((wrap32 (65536 + (wrap32 ((wrap32 ((Go.bits .or .i32 (wrap32 ((wrap32 (rd l0 (ji5))) * 256)) (wrap32 (rd l0 (ji8)))) - 55296)) * 1024)))) + (wrap32 ((Go.bits .or .i32 (wrap32 ((wrap32 (rd l0 (ji18))) * 256)) (wrap32 (rd l0 (ji21)))) - 56320)))))) (wrap64 ((wrap64 (x8_1 + 2)) + 2))) else (none)) = some (r1, r2, r3) := by rw [if_pos rfl] at H; exact H
                                                clear H
                                                have H := H1
                                                clear H1
                                                by_cases c29 : x7_1.length + (Utf8.encode (wrap32 ((wrap32 (65536 + (wrap32 ((wrap32 ((Go.bits .or .i32 (wrap32 ((wrap32 (rd l0 (ji5))) * 256)) (wrap32 (rd l0 (ji8)))) - 55296)) * 1024)))) + (wrap32 ((Go.bits .or .i32 (wrap32 ((wrap32 (rd l0 (ji18))) * 256)) (wrap32 (rd l0 (ji21)))) - 56320))))).size < 140737488355328
                                                · rw [if_pos c29] at H
                                                  have LMc29 := Aside0.mk c29
                                                  clear c29
                                                  obtain ⟨y133, hy133⟩ : ∃ y_ : List Int, y_ = (x7_1 ++ bytesOf (Utf8.encode (wrap32 ((wrap32 (65536 + (wrap32 ((wrap32 ((Go.bits .or .i32 (wrap32 ((wrap32 (rd l0 (ji5))) * 256)) (wrap32 (rd l0 (ji8)))) - 55296)) * 1024)))) + (wrap32 ((Go.bits .or .i32 (wrap32 ((wrap32 (rd l0 (ji18))) * 256)) (wrap32 (rd l0 (ji21)))) - 56320)))))) := ⟨_, rfl⟩
                                                  replace H : (stencilref01_wide.l0 kj23 l0 a1 y133 (wrap64 ((wrap64 (x8_1 + 2)) + 2))) = some (r1, r2, r3) := by first | (rw [hy133]; with_reducible exact H) | (have H2_ := (Option.bind_some _ _).symm.trans H; rw [hy133]; with_reducible exact H2_) | (have H2_ := (Option.bind_some _ _).symm.trans H; with_reducible exact H2_) | with_reducible exact H | (rw [hy133]; exact H) | exact H
                                                  have Ny133 := Aside0.mk hy133
                                                  clear hy133
                                                  have H' := Aside0.mk H
                                                  clear H
                                                  go_wp2_with (first | (go_at_call 31; (with_reducible refine (stencilref01_IsChar.calls (wrap32 ((wrap32 (65536 + (wrap32 ((wrap32 ((Go.bits .or .i32 (wrap32 ((wrap32 (rd l0 (ji5))) * 256)) (wrap32 (rd l0 (ji8)))) - 55296)) * 1024)))) + (wrap32 ((Go.bits .or .i32 (wrap32 ((wrap32 (rd l0 (ji18))) * 256)) (wrap32 (rd l0 (ji21)))) - 56320)))) true _ ?side1 A27.out).mono ?_); (case side1 => first | exact HLD | exact Laid.below HLD (by repeat (first | (with_reducible first | exact HB.out | apply below_alloc | apply pw_below_drewN | apply below_drew1) | exact HB.out))); rintro e w' ⟨rfl, ⟨nd, rfl⟩⟩; (try first | exact ⟨rfl, _, World.drewN_drewN _ _ _⟩ | exact ⟨rfl, _, Eq.trans (World.drewN_drewN _ _ _) (congrArg (World.drewN _) (Nat.add_assoc _ _ _))⟩)) | (at_builtin; refine print_append_str (w0 := w) w.heap.size rfl (.tmp 99) _ 37 9 5 rfl Tryd.underlying37 Tryd.underlying9 info5 u7 x7_1 (Utf8.encode (wrap32 ((wrap32 (65536 + (wrap32 ((wrap32 ((Go.bits .or .i32 (wrap32 ((wrap32 (rd l0 (ji5))) * 256)) (wrap32 (rd l0 (ji8)))) - 55296)) * 1024)))) + (wrap32 ((Go.bits .or .i32 (wrap32 ((wrap32 (rd l0 (ji18))) * 256)) (wrap32 (rd l0 (ji21)))) - 56320))))) rfl rfl ?aO ?aB ?aS ?aL ?_; (case aB => exact (by repeat (first | (with_reducible first | exact HB.out | apply below_alloc | apply pw_below_drewN | apply below_drew1) | exact HB.out))); (case aO => exact (Kd.own_of_R (by (with_reducible repeat (first | apply Kd.R_alloc | apply Kd.R_drewN | apply Kd.R_drew)); exact HO_7.out))); (case aS => exact (below_size (by repeat (first | (with_reducible first | exact HB.out | apply below_alloc | apply pw_below_drewN | apply below_drew1) | exact HB.out)))); (case aL => have := LMc29.out; omega); intro v134 w30 ho0 hb hg; have ho := Kd.R_of_own (h1 := fun _ => rfl) (ok := fun _ => True) ho0 (fun _ _ => trivial); clear ho0; have hat := True.intro; rw [← Ny133.out] at ho; change Kd.R (Kd.int .u8) 5 w30 w.heap.size (fun _ => True) v134 y133 at ho; have n0_ := Aside0.mk (hb); have n1_ := Aside0.mk (ho); clear HB; clear HO_7; have HB := n0_; have HO135 := n1_; clear n0_ n1_; clear ho hb hg hat))
                                                  repeat (go_quiet (first | (go_at_call 31; (with_reducible refine (stencilref01_IsChar.calls (wrap32 ((wrap32 (65536 + (wrap32 ((wrap32 ((Go.bits .or .i32 (wrap32 ((wrap32 (rd l0 (ji5))) * 256)) (wrap32 (rd l0 (ji8)))) - 55296)) * 1024)))) + (wrap32 ((Go.bits .or .i32 (wrap32 ((wrap32 (rd l0 (ji18))) * 256)) (wrap32 (rd l0 (ji21)))) - 56320)))) true _ ?side1 A27.out).mono ?_); (case side1 => first | exact HLD | exact Laid.below HLD (by repeat (first | (with_reducible first | exact HB.out | apply below_alloc | apply pw_below_drewN | apply below_drew1) | exact HB.out))); rintro e w' ⟨rfl, ⟨nd, rfl⟩⟩; (try first | exact ⟨rfl, _, World.drewN_drewN _ _ _⟩ | exact ⟨rfl, _, Eq.trans (World.drewN_drewN _ _ _) (congrArg (World.drewN _) (Nat.add_assoc _ _ _))⟩)) | (at_builtin; refine print_append_str (w0 := w) w.heap.size rfl (.tmp 99) _ 37 9 5 rfl Tryd.underlying37 Tryd.underlying9 info5 u7 x7_1 (Utf8.encode (wrap32 ((wrap32 (65536 + (wrap32 ((wrap32 ((Go.bits .or .i32 (wrap32 ((wrap32 (rd l0 (ji5))) * 256)) (wrap32 (rd l0 (ji8)))) - 55296)) * 1024)))) + (wrap32 ((Go.bits .or .i32 (wrap32 ((wrap32 (rd l0 (ji18))) * 256)) (wrap32 (rd l0 (ji21)))) - 56320))))) rfl rfl ?aO ?aB ?aS ?aL ?_; (case aB => exact (by repeat (first | (with_reducible first | exact HB.out | apply below_alloc | apply pw_below_drewN | apply below_drew1) | exact HB.out))); (case aO => exact (Kd.own_of_R (by (with_reducible repeat (first | apply Kd.R_alloc | apply Kd.R_drewN | apply Kd.R_drew)); exact HO_7.out))); (case aS => exact (below_size (by repeat (first | (with_reducible first | exact HB.out | apply below_alloc | apply pw_below_drewN | apply below_drew1) | exact HB.out)))); (case aL => have := LMc29.out; omega); intro v134 w30 ho0 hb hg; have ho := Kd.R_of_own (h1 := fun _ => rfl) (ok := fun _ => True) ho0 (fun _ _ => trivial); clear ho0; have hat := True.intro; rw [← Ny133.out] at ho; change Kd.R (Kd.int .u8) 5 w30 w.heap.size (fun _ => True) v134 y133 at ho; have n0_ := Aside0.mk (hb); have n1_ := Aside0.mk (ho); clear HB; clear HO_7; have HB := n0_; have HO135 := n1_; clear n0_ n1_; clear ho hb hg hat)); try go_wp2_with (first | (go_at_call 31; (with_reducible refine (stencilref01_IsChar.calls (wrap32 ((wrap32 (65536 + (wrap32 ((wrap32 ((Go.bits .or .i32 (wrap32 ((wrap32 (rd l0 (ji5))) * 256)) (wrap32 (rd l0 (ji8)))) - 55296)) * 1024)))) + (wrap32 ((Go.bits .or .i32 (wrap32 ((wrap32 (rd l0 (ji18))) * 256)) (wrap32 (rd l0 (ji21)))) - 56320)))) true _ ?side1 A27.out).mono ?_); (case side1 => first | exact HLD | exact Laid.below HLD (by repeat (first | (with_reducible first | exact HB.out | apply below_alloc | apply pw_below_drewN | apply below_drew1) | exact HB.out))); rintro e w' ⟨rfl, ⟨nd, rfl⟩⟩; (try first | exact ⟨rfl, _, World.drewN_drewN _ _ _⟩ | exact ⟨rfl, _, Eq.trans (World.drewN_drewN _ _ _) (congrArg (World.drewN _) (Nat.add_assoc _ _ _))⟩)) | (at_builtin; refine print_append_str (w0 := w) w.heap.size rfl (.tmp 99) _ 37 9 5 rfl Tryd.underlying37 Tryd.underlying9 info5 u7 x7_1 (Utf8.encode (wrap32 ((wrap32 (65536 + (wrap32 ((wrap32 ((Go.bits .or .i32 (wrap32 ((wrap32 (rd l0 (ji5))) * 256)) (wrap32 (rd l0 (ji8)))) - 55296)) * 1024)))) + (wrap32 ((Go.bits .or .i32 (wrap32 ((wrap32 (rd l0 (ji18))) * 256)) (wrap32 (rd l0 (ji21)))) - 56320))))) rfl rfl ?aO ?aB ?aS ?aL ?_; (case aB => exact (by repeat (first | (with_reducible first | exact HB.out | apply below_alloc | apply pw_below_drewN | apply below_drew1) | exact HB.out))); (case aO => exact (Kd.own_of_R (by (with_reducible repeat (first | apply Kd.R_alloc | apply Kd.R_drewN | apply Kd.R_drew)); exact HO_7.out))); (case aS => exact (below_size (by repeat (first | (with_reducible first | exact HB.out | apply below_alloc | apply pw_below_drewN | apply below_drew1) | exact HB.out)))); (case aL => have := LMc29.out; omega); intro v134 w30 ho0 hb hg; have ho := Kd.R_of_own (h1 := fun _ => rfl) (ok := fun _ => True) ho0 (fun _ _ => trivial); clear ho0; have hat := True.intro; rw [← Ny133.out] at ho; change Kd.R (Kd.int .u8) 5 w30 w.heap.size (fun _ => True) v134 y133 at ho; have n0_ := Aside0.mk (hb); have n1_ := Aside0.mk (ho); clear HB; clear HO_7; have HB := n0_; have HO135 := n1_; clear n0_ n1_; clear ho hb hg hat)))
                                                  go_roundg kj23
                                                  case measure => have := HK1.out; have := HJ10.out; have := HJ13.out; have := HJ23.out; omega
                                                  case rel => exact ⟨(y133), (wrap64 ((wrap64 (x8_1 + 2)) + 2)), (by first | rfl | (simp; done) | (simp [*]; done)), H', ⟨by have := HK1.out; have := HJ10.out; have := HJ13.out; have := HJ23.out; omega⟩, ⟨by (with_reducible repeat (first | apply Kd.R_alloc | apply Kd.R_drewN | apply Kd.R_drew)); exact HO135.out⟩, ⟨by repeat (first | (with_reducible first | exact HB.out | apply below_alloc | apply pw_below_drewN | apply below_drew1) | exact HB.out)⟩⟩
                                                · rw [if_neg c29] at H
                                                  exact absurd H (by simp)
                                              · replace c28 := Bool.eq_false_iff.mpr c28
                                                subst c28
                                                have H1 : (some ((⟨#[]⟩ : ByteArray), 4, x8_1)) = some (r1, r2, r3) := by rw [if_neg (show ¬ (false = true) by decide)] at H; exact H
                                                clear H
                                                have H := H1
                                                clear H1
                                                simp only [Option.some.injEq, Prod.mk.injEq] at H
                                                obtain ⟨rfl, rfl, rfl⟩ := H
                                                go_wp2_with (first | (go_at_call 31; (with_reducible refine (stencilref01_IsChar.calls (wrap32 ((wrap32 (65536 + (wrap32 ((wrap32 ((Go.bits .or .i32 (wrap32 ((wrap32 (rd l0 (ji5))) * 256)) (wrap32 (rd l0 (ji8)))) - 55296)) * 1024)))) + (wrap32 ((Go.bits .or .i32 (wrap32 ((wrap32 (rd l0 (ji18))) * 256)) (wrap32 (rd l0 (ji21)))) - 56320)))) false _ ?side1 A27.out).mono ?_); (case side1 => first | exact HLD | exact Laid.below HLD (by repeat (first | (with_reducible first | exact HB.out | apply below_alloc | apply pw_below_drewN | apply below_drew1) | exact HB.out))); rintro e w' ⟨rfl, ⟨nd, rfl⟩⟩; (try first | exact ⟨rfl, _, World.drewN_drewN _ _ _⟩ | exact ⟨rfl, _, Eq.trans (World.drewN_drewN _ _ _) (congrArg (World.drewN _) (Nat.add_assoc _ _ _))⟩)))
                                                repeat (go_quiet (first | (go_at_call 31; (with_reducible refine (stencilref01_IsChar.calls (wrap32 ((wrap32 (65536 + (wrap32 ((wrap32 ((Go.bits .or .i32 (wrap32 ((wrap32 (rd l0 (ji5))) * 256)) (wrap32 (rd l0 (ji8)))) - 55296)) * 1024)))) + (wrap32 ((Go.bits .or .i32 (wrap32 ((wrap32 (rd l0 (ji18))) * 256)) (wrap32 (rd l0 (ji21)))) - 56320)))) false _ ?side1 A27.out).mono ?_); (case side1 => first | exact HLD | exact Laid.below HLD (by repeat (first | (with_reducible first | exact HB.out | apply below_alloc | apply pw_below_drewN | apply below_drew1) | exact HB.out))); rintro e w' ⟨rfl, ⟨nd, rfl⟩⟩; (try first | exact ⟨rfl, _, World.drewN_drewN _ _ _⟩ | exact ⟨rfl, _, Eq.trans (World.drewN_drewN _ _ _) (congrArg (World.drewN _) (Nat.add_assoc _ _ _))⟩))); try go_wp2_with (first | (go_at_call 31; (with_reducible refine (stencilref01_IsChar.calls (wrap32 ((wrap32 (65536 + (wrap32 ((wrap32 ((Go.bits .or .i32 (wrap32 ((wrap32 (rd l0 (ji5))) * 256)) (wrap32 (rd l0 (ji8)))) - 55296)) * 1024)))) + (wrap32 ((Go.bits .or .i32 (wrap32 ((wrap32 (rd l0 (ji18))) * 256)) (wrap32 (rd l0 (ji21)))) - 56320)))) false _ ?side1 A27.out).mono ?_); (case side1 => first | exact HLD | exact Laid.below HLD (by repeat (first | (with_reducible first | exact HB.out | apply below_alloc | apply pw_below_drewN | apply below_drew1) | exact HB.out))); rintro e w' ⟨rfl, ⟨nd, rfl⟩⟩; (try first | exact ⟨rfl, _, World.drewN_drewN _ _ _⟩ | exact ⟨rfl, _, Eq.trans (World.drewN_drewN _ _ _) (congrArg (World.drewN _) (Nat.add_assoc _ _ _))⟩))))
                                                go_ret3
                                                exact ⟨by first | rfl | (simp [errW_none, errW_some] <;> rfl) | (simp only [← hji5, ← hji8, ← hji18, ← hji21]; first | rfl | (simp [errW_none, errW_some] <;> rfl)) | (simp [*, errW_none, errW_some] <;> rfl), by repeat (first | (with_reducible first | exact HB.out | apply below_alloc | apply pw_below_drewN | apply below_drew1) | exact HB.out)⟩
                                      · rw [if_neg c23] at H
                                        exact absurd H (by simp)
                                    · rw [if_neg c22] at H
                                      exact absurd H (by simp)
                                  · rw [if_neg c20] at H
                                    exact absurd H (by simp)
                                · rw [if_neg c19] at H
                                  exact absurd H (by simp)
                            · replace c16 := Bool.eq_false_iff.mpr c16
                              subst c16
                              have H1 : ((stencilref01_IsChar.f (Go.bits .or .i32 (wrap32 ((wrap32 (rd l0 (ji5))) * 256)) (wrap32 (rd l0 (ji8))))).bind fun t136 => (if t136 = true then (if x7_1.length + (Utf8.encode (Go.bits .or .i32 (wrap32 ((wrap32 (rd l0 (ji5))) * 256)) (wrap32 (rd l0 (ji8))))).size < 140737488355328 then (stencilref01_wide.l0 kj13 l0 a1 (x7_1 ++ bytesOf (Utf8.encode (Go.bits .or .i32 (wrap32 ((wrap32 (rd l0 (ji5))) * 256)) (wrap32 (rd l0 (ji8)))))) (wrap64 (x8_1 + 2))) else (none)) else (some ((⟨#[]⟩ : ByteArray), 4, x8_1)))) = some (r1, r2, r3) := by rw [if_neg (show ¬ (false = true) by decide)] at H; exact H
                              clear H
                              have H := H1
                              clear H1
                              replace H := Option.bind_eq_some_iff.mp H
                              obtain ⟨t136, A310, H⟩ := H
                              replace H : (if t136 = true then (if x7_1.length + (Utf8.encode (Go.bits .or .i32 (wrap32 ((wrap32 (rd l0 (ji5))) * 256)) (wrap32 (rd l0 (ji8))))).size < 140737488355328 then (stencilref01_wide.l0 kj13 l0 a1 (x7_1 ++ bytesOf (Utf8.encode (Go.bits .or .i32 (wrap32 ((wrap32 (rd l0 (ji5))) * 256)) (wrap32 (rd l0 (ji8)))))) (wrap64 (x8_1 + 2))) else (none)) else (some ((⟨#[]⟩ : ByteArray), 4, x8_1))) = some (r1, r2, r3) := H
                              have A31 := Aside0.mk A310
                              clear A310
                              by_cases c32 : t136 = true
                              · subst c32
                                have H1 : (if x7_1.length + (Utf8.encode (Go.bits .or .i32 (wrap32 ((wrap32 (rd l0 (ji5))) * 256)) (wrap32 (rd l0 (ji8))))).size < 140737488355328 then (stencilref01_wide.l0 kj13 l0 a1 (x7_1 ++ bytesOf (Utf8.encode (Go.bits .or .i32 (wrap32 ((wrap32 (rd l0 (ji5))) * 256)) (wrap32 (rd l0 (ji8)))))) (wrap64 (x8_1 + 2))) else (none)) = some (r1, r2, r3) := by rw [if_pos rfl] at H; exact H
                                clear H
                                have H := H1
                                clear H1
                                by_cases c33 : x7_1.length + (Utf8.encode (Go.bits .or .i32 (wrap32 ((wrap32 (rd l0 (ji5))) * 256)) (wrap32 (rd l0 (ji8))))).size < 140737488355328
                                · rw [if_pos c33] at H
                                  have LMc33 := Aside0.mk c33
                                  clear c33
                                  obtain ⟨y137, hy137⟩ : ∃ y_ : List Int, y_ = (x7_1 ++ bytesOf (Utf8.encode (Go.bits .or .i32 (wrap32 ((wrap32 (rd l0 (ji5))) * 256)) (wrap32 (rd l0 (ji8)))))) := ⟨_, rfl⟩
                                  replace H : (stencilref01_wide.l0 kj13 l0 a1 y137 (wrap64 (x8_1 + 2))) = some (r1, r2, r3) := by first | (rw [hy137]; with_reducible exact H) | (have H2_ := (Option.bind_some _ _).symm.trans H; rw [hy137]; with_reducible exact H2_) | (have H2_ := (Option.bind_some _ _).symm.trans H; with_reducible exact H2_) | with_reducible exact H | (rw [hy137]; exact H) | exact H
                                  have Ny137 := Aside0.mk hy137
                                  clear hy137
                                  have H' := Aside0.mk H
                                  clear H
                                  go_wp2_with (first | (go_at_call 31; (with_reducible refine (stencilref01_IsChar.calls (Go.bits .or .i32 (wrap32 ((wrap32 (rd l0 (ji5))) * 256)) (wrap32 (rd l0 (ji8)))) true _ ?side1 A31.out).mono ?_); (case side1 => first | exact HLD | exact Laid.below HLD (by repeat (first | (with_reducible first | exact HB.out | apply below_alloc | apply pw_below_drewN | apply below_drew1) | exact HB.out))); rintro e w' ⟨rfl, ⟨nd, rfl⟩⟩; (try first | exact ⟨rfl, _, World.drewN_drewN _ _ _⟩ | exact ⟨rfl, _, Eq.trans (World.drewN_drewN _ _ _) (congrArg (World.drewN _) (Nat.add_assoc _ _ _))⟩)) | (at_builtin; refine print_append_str (w0 := w) w.heap.size rfl (.tmp 99) _ 37 9 5 rfl Tryd.underlying37 Tryd.underlying9 info5 u7 x7_1 (Utf8.encode (Go.bits .or .i32 (wrap32 ((wrap32 (rd l0 (ji5))) * 256)) (wrap32 (rd l0 (ji8))))) rfl rfl ?aO ?aB ?aS ?aL ?_; (case aB => exact (by repeat (first | (with_reducible first | exact HB.out | apply below_alloc | apply pw_below_drewN | apply below_drew1) | exact HB.out))); (case aO => exact (Kd.own_of_R (by (with_reducible repeat (first | apply Kd.R_alloc | apply Kd.R_drewN | apply Kd.R_drew)); exact HO_7.out))); (case aS => exact (below_size (by repeat (first | (with_reducible first | exact HB.out | apply below_alloc | apply pw_below_drewN | apply below_drew1) | exact HB.out)))); (case aL => have := LMc33.out; omega); intro v138 w34 ho0 hb hg; have ho := Kd.R_of_own (h1 := fun _ => rfl) (ok := fun _ => True) ho0 (fun _ _ => trivial); clear ho0; have hat := True.intro; rw [← Ny137.out] at ho; change Kd.R (Kd.int .u8) 5 w34 w.heap.size (fun _ => True) v138 y137 at ho; have n0_ := Aside0.mk (hb); have n1_ := Aside0.mk (ho); clear HB; clear HO_7; have HB := n0_; have HO139 := n1_; clear n0_ n1_; clear ho hb hg hat))
                                  repeat (go_quiet (first | (go_at_call 31; (with_reducible refine (stencilref01_IsChar.calls (Go.bits .or .i32 (wrap32 ((wrap32 (rd l0 (ji5))) * 256)) (wrap32 (rd l0 (ji8)))) true _ ?side1 A31.out).mono ?_); (case side1 => first | exact HLD | exact Laid.below HLD (by repeat (first | (with_reducible first | exact HB.out | apply below_alloc | apply pw_below_drewN | apply below_drew1) | exact HB.out))); rintro e w' ⟨rfl, ⟨nd, rfl⟩⟩; (try first | exact ⟨rfl, _, World.drewN_drewN _ _ _⟩ | exact ⟨rfl, _, Eq.trans (World.drewN_drewN _ _ _) (congrArg (World.drewN _) (Nat.add_assoc _ _ _))⟩)) | (at_builtin; refine print_append_str (w0 := w) w.heap.size rfl (.tmp 99) _ 37 9 5 rfl Tryd.underlying37 Tryd.underlying9 info5 u7 x7_1 (Utf8.encode (Go.bits .or .i32 (wrap32 ((wrap32 (rd l0 (ji5))) * 256)) (wrap32 (rd l0 (ji8))))) rfl rfl ?aO ?aB ?aS ?aL ?_; (case aB => exact (by repeat (first | (with_reducible first | exact HB.out | apply below_alloc | apply pw_below_drewN | apply below_drew1) | exact HB.out))); (case aO => exact (Kd.own_of_R (by (with_reducible repeat (first | apply Kd.R_alloc | apply Kd.R_drewN | apply Kd.R_drew)); exact HO_7.out))); (case aS => exact (below_size (by repeat (first | (with_reducible first | exact HB.out | apply below_alloc | apply pw_below_drewN | apply below_drew1) | exact HB.out)))); (case aL => have := LMc33.out; omega); intro v138 w34 ho0 hb hg; have ho := Kd.R_of_own (h1 := fun _ => rfl) (ok := fun _ => True) ho0 (fun _ _ => trivial); clear ho0; have hat := True.intro; rw [← Ny137.out] at ho; change Kd.R (Kd.int .u8) 5 w34 w.heap.size (fun _ => True) v138 y137 at ho; have n0_ := Aside0.mk (hb); have n1_ := Aside0.mk (ho); clear HB; clear HO_7; have HB := n0_; have HO139 := n1_; clear n0_ n1_; clear ho hb hg hat)); try go_wp2_with (first | (go_at_call 31; (with_reducible refine (stencilref01_IsChar.calls (Go.bits .or .i32 (wrap32 ((wrap32 (rd l0 (ji5))) * 256)) (wrap32 (rd l0 (ji8)))) true _ ?side1 A31.out).mono ?_); (case side1 => first | exact HLD | exact Laid.below HLD (by repeat (first | (with_reducible first | exact HB.out | apply below_alloc | apply pw_below_drewN | apply below_drew1) | exact HB.out))); rintro e w' ⟨rfl, ⟨nd, rfl⟩⟩; (try first | exact ⟨rfl, _, World.drewN_drewN _ _ _⟩ | exact ⟨rfl, _, Eq.trans (World.drewN_drewN _ _ _) (congrArg (World.drewN _) (Nat.add_assoc _ _ _))⟩)) | (at_builtin; refine print_append_str (w0 := w) w.heap.size rfl (.tmp 99) _ 37 9 5 rfl Tryd.underlying37 Tryd.underlying9 info5 u7 x7_1 (Utf8.encode (Go.bits .or .i32 (wrap32 ((wrap32 (rd l0 (ji5))) * 256)) (wrap32 (rd l0 (ji8))))) rfl rfl ?aO ?aB ?aS ?aL ?_; (case aB => exact (by repeat (first | (with_reducible first | exact HB.out | apply below_alloc | apply pw_below_drewN | apply below_drew1) | exact HB.out))); (case aO => exact (Kd.own_of_R (by (with_reducible repeat (first | apply Kd.R_alloc | apply Kd.R_drewN | apply Kd.R_drew)); exact HO_7.out))); (case aS => exact (below_size (by repeat (first | (with_reducible first | exact HB.out | apply below_alloc | apply pw_below_drewN | apply below_drew1) | exact HB.out)))); (case aL => have := LMc33.out; omega); intro v138 w34 ho0 hb hg; have ho := Kd.R_of_own (h1 := fun _ => rfl) (ok := fun _ => True) ho0 (fun _ _ => trivial); clear ho0; have hat := True.intro; rw [← Ny137.out] at ho; change Kd.R (Kd.int .u8) 5 w34 w.heap.size (fun _ => True) v138 y137 at ho; have n0_ := Aside0.mk (hb); have n1_ := Aside0.mk (ho); clear HB; clear HO_7; have HB := n0_; have HO139 := n1_; clear n0_ n1_; clear ho hb hg hat)))
                                  go_roundg kj13
                                  case measure => have := HK1.out; have := HJ10.out; have := HJ13.out; omega
                                  case rel => exact ⟨(y137), (wrap64 (x8_1 + 2)), (by first | rfl | (simp; done) | (simp [*]; done)), H', ⟨by have := HK1.out; have := HJ10.out; have := HJ13.out; omega⟩, ⟨by (with_reducible repeat (first | apply Kd.R_alloc | apply Kd.R_drewN | apply Kd.R_drew)); exact HO139.out⟩, ⟨by repeat (first | (with_reducible first | exact HB.out | apply below_alloc | apply pw_below_drewN | apply below_drew1) | exact HB.out)⟩⟩
                                · rw [if_neg c33] at H
                                  exact absurd H (by simp)
                              · replace c32 := Bool.eq_false_iff.mpr c32
                                subst c32
                                have H1 : (some ((⟨#[]⟩ : ByteArray), 4, x8_1)) = some (r1, r2, r3) := by rw [if_neg (show ¬ (false = true) by decide)] at H; exact H
                                clear H
                                have H := H1
                                clear H1
                                simp only [Option.some.injEq, Prod.mk.injEq] at H
                                obtain ⟨rfl, rfl, rfl⟩ := H
                                go_wp2_with (first | (go_at_call 31; (with_reducible refine (stencilref01_IsChar.calls (Go.bits .or .i32 (wrap32 ((wrap32 (rd l0 (ji5))) * 256)) (wrap32 (rd l0 (ji8)))) false _ ?side1 A31.out).mono ?_); (case side1 => first | exact HLD | exact Laid.below HLD (by repeat (first | (with_reducible first | exact HB.out | apply below_alloc | apply pw_below_drewN | apply below_drew1) | exact HB.out))); rintro e w' ⟨rfl, ⟨nd, rfl⟩⟩; (try first | exact ⟨rfl, _, World.drewN_drewN _ _ _⟩ | exact ⟨rfl, _, Eq.trans (World.drewN_drewN _ _ _) (congrArg (World.drewN _) (Nat.add_assoc _ _ _))⟩)))
                                repeat (go_quiet (first | (go_at_call 31; (with_reducible refine (stencilref01_IsChar.calls (Go.bits .or .i32 (wrap32 ((wrap32 (rd l0 (ji5))) * 256)) (wrap32 (rd l0 (ji8)))) false _ ?side1 A31.out).mono ?_); (case side1 => first | exact HLD | exact Laid.below HLD (by repeat (first | (with_reducible first | exact HB.out | apply below_alloc | apply pw_below_drewN | apply below_drew1) | exact HB.out))); rintro e w' ⟨rfl, ⟨nd, rfl⟩⟩; (try first | exact ⟨rfl, _, World.drewN_drewN _ _ _⟩ | exact ⟨rfl, _, Eq.trans (World.drewN_drewN _ _ _) (congrArg (World.drewN _) (Nat.add_assoc _ _ _))⟩))); try go_wp2_with (first | (go_at_call 31; (with_reducible refine (stencilref01_IsChar.calls (Go.bits .or .i32 (wrap32 ((wrap32 (rd l0 (ji5))) * 256)) (wrap32 (rd l0 (ji8)))) false _ ?side1 A31.out).mono ?_); (case side1 => first | exact HLD | exact Laid.below HLD (by repeat (first | (with_reducible first | exact HB.out | apply below_alloc | apply pw_below_drewN | apply below_drew1) | exact HB.out))); rintro e w' ⟨rfl, ⟨nd, rfl⟩⟩; (try first | exact ⟨rfl, _, World.drewN_drewN _ _ _⟩ | exact ⟨rfl, _, Eq.trans (World.drewN_drewN _ _ _) (congrArg (World.drewN _) (Nat.add_assoc _ _ _))⟩))))
                                go_ret3
                                exact ⟨by first | rfl | (simp [errW_none, errW_some] <;> rfl) | (simp only [← hji5, ← hji8]; first | rfl | (simp [errW_none, errW_some] <;> rfl)) | (simp [*, errW_none, errW_some] <;> rfl), by repeat (first | (with_reducible first | exact HB.out | apply below_alloc | apply pw_below_drewN | apply below_drew1) | exact HB.out)⟩
                · rw [if_neg c10] at H
                  exact absurd H (by simp)
              · rw [if_neg c9] at H
                exact absurd H (by simp)
            · rw [if_neg c7] at H
              exact absurd H (by simp)
          · rw [if_neg c6] at H
            exact absurd H (by simp)
      · rw [if_neg c3] at H
        have c3b0 : decide (x8_1 < (l0.length : Int)) = false := decide_eq_false c3
        clear c3
        replace H := Option.bind_eq_some_iff.mp H
        obtain ⟨t127, A350, H⟩ := H
        replace H : (some (t127, 0, 0)) = some (r1, r2, r3) := H
        have A35 := Aside0.mk A350
        clear A350
        simp only [Option.some.injEq, Prod.mk.injEq] at H
        obtain ⟨rfl, rfl, rfl⟩ := H
        have hcv36 := own_string (P := Tryd.prog) Tryd.underlying37 Tryd.underlying5 Tryd.underlying9 (Kd.own_of_R HO_7.out)
        go_wp2_with (first | (go_at_call 89; (with_reducible refine (stencilref01_ends.calls k1 (strOfNums x7_1) t127 _ ?side1 A35.out).mono ?_); (case side1 => first | exact HLD | exact Laid.below HLD (by repeat (first | (with_reducible first | exact HB.out | apply below_alloc | apply pw_below_drewN | apply below_drew1) | exact HB.out))); rintro e w37 ⟨rfl, hb⟩; have n0_ := Aside0.mk (Kd.R_below (by (with_reducible repeat (first | apply Kd.R_alloc | apply Kd.R_drewN | apply Kd.R_drew)); exact HO_7.out) hb); have n1_ := Aside0.mk (below_step (by repeat (first | (with_reducible first | exact HB.out | apply below_alloc | apply pw_below_drewN | apply below_drew1) | exact HB.out)) hb); clear HO_7; clear HB; have HO_7 := n0_; have HB := n1_; clear n0_ n1_; (try clear hb); (try clear hb2); (try clear hk); (try clear hi)))
        repeat (go_quiet (first | (go_at_call 89; (with_reducible refine (stencilref01_ends.calls k1 (strOfNums x7_1) t127 _ ?side1 A35.out).mono ?_); (case side1 => first | exact HLD | exact Laid.below HLD (by repeat (first | (with_reducible first | exact HB.out | apply below_alloc | apply pw_below_drewN | apply below_drew1) | exact HB.out))); rintro e w37 ⟨rfl, hb⟩; have n0_ := Aside0.mk (Kd.R_below (by (with_reducible repeat (first | apply Kd.R_alloc | apply Kd.R_drewN | apply Kd.R_drew)); exact HO_7.out) hb); have n1_ := Aside0.mk (below_step (by repeat (first | (with_reducible first | exact HB.out | apply below_alloc | apply pw_below_drewN | apply below_drew1) | exact HB.out)) hb); clear HO_7; clear HB; have HO_7 := n0_; have HB := n1_; clear n0_ n1_; (try clear hb); (try clear hb2); (try clear hk); (try clear hi))); try go_wp2_with (first | (go_at_call 89; (with_reducible refine (stencilref01_ends.calls k1 (strOfNums x7_1) t127 _ ?side1 A35.out).mono ?_); (case side1 => first | exact HLD | exact Laid.below HLD (by repeat (first | (with_reducible first | exact HB.out | apply below_alloc | apply pw_below_drewN | apply below_drew1) | exact HB.out))); rintro e w37 ⟨rfl, hb⟩; have n0_ := Aside0.mk (Kd.R_below (by (with_reducible repeat (first | apply Kd.R_alloc | apply Kd.R_drewN | apply Kd.R_drew)); exact HO_7.out) hb); have n1_ := Aside0.mk (below_step (by repeat (first | (with_reducible first | exact HB.out | apply below_alloc | apply pw_below_drewN | apply below_drew1) | exact HB.out)) hb); clear HO_7; clear HB; have HO_7 := n0_; have HB := n1_; clear n0_ n1_; (try clear hb); (try clear hb2); (try clear hk); (try clear hi))))
        go_ret3
        exact ⟨by first | rfl | (simp [errW_none, errW_some] <;> rfl) | (simp [*, errW_none, errW_some] <;> rfl), by repeat (first | (with_reducible first | exact HB.out | apply below_alloc | apply pw_below_drewN | apply below_drew1) | exact HB.out)⟩

/-! ### stencilref01_Bad: function 55 -/
mutual
def stencilref01_Bad.l0 : Nat → ByteArray → Int → Option (Int × Bool)
  | 0, _, _ => none
  | k + 1, x0, x4 => if x4 < (x0.size : Int) then (if 0 ≤ x4 then (if x4 ≤ (x0.size : Int) then ((utf8_DecodeRuneInString.f (x0.extract (x4 : Int).toNat x0.size)).bind fun bt140 => (if bt140.1 = 65533 then (stencilref01_Bad.j1 k x0 x4 bt140.1 bt140.2 (bt140.2 == 1)) else (stencilref01_Bad.j1 k x0 x4 bt140.1 bt140.2 false))) else (none)) else (none)) else (some ((-1), false))
def stencilref01_Bad.j1 : Nat → ByteArray → Int → Int → Int → Bool → Option (Int × Bool)
  | 0, _, _, _, _, _ => none
  | k + 1, x0, x4, x5, x6, x23 => if x23 = true then (some (x4, true)) else ((stencilref01_IsChar.f x5).bind fun t142 => (if t142 = true then (stencilref01_Bad.l0 k x0 (wrap64 (x4 + x6))) else (some (x4, false))))
end
def stencilref01_Bad.f (k : Nat) (a0 : ByteArray) : Option (Int × Bool) := stencilref01_Bad.l0 k a0 0
theorem stencilref01_Bad.mono_l : ∀ k, (∀ y0 y1, LeO (stencilref01_Bad.l0 k y0 y1) (stencilref01_Bad.l0 (k + 1) y0 y1)) ∧ (∀ y0 y1 y2 y3 y4, LeO (stencilref01_Bad.j1 k y0 y1 y2 y3 y4) (stencilref01_Bad.j1 (k + 1) y0 y1 y2 y3 y4))
  | 0 => ⟨fun _ _ r h => by simp [stencilref01_Bad.l0] at h, fun _ _ _ _ _ r h => by simp [stencilref01_Bad.j1] at h⟩
  | k + 1 => by
    obtain ⟨ih0, ih1⟩ := stencilref01_Bad.mono_l k
    refine ⟨?_, ?_⟩
    · intro y0 y1
      unfold stencilref01_Bad.l0
      repeat' first
      | (with_reducible exact ih0 _ _)
      | (with_reducible exact ih1 _ _ _ _ _)
      | (with_reducible exact LeO.refl _)
      | (with_reducible exact LeO.none _)
      | (with_reducible refine LeO.ite ?_ ?_)
      | (with_reducible refine LeO.bind ?_ (fun _ => ?_))
      | exact ih0 _ _
      | exact ih1 _ _ _ _ _
      | exact LeO.none _
      | refine LeO.ite ?_ ?_
      | refine LeO.bind ?_ (fun _ => ?_)
    · intro y0 y1 y2 y3 y4
      unfold stencilref01_Bad.j1
      repeat' first
      | (with_reducible exact ih0 _ _)
      | (with_reducible exact ih1 _ _ _ _ _)
      | (with_reducible exact LeO.refl _)
      | (with_reducible exact LeO.none _)
      | (with_reducible refine LeO.ite ?_ ?_)
      | (with_reducible refine LeO.bind ?_ (fun _ => ?_))
      | exact ih0 _ _
      | exact ih1 _ _ _ _ _
      | exact LeO.none _
      | refine LeO.ite ?_ ?_
      | refine LeO.bind ?_ (fun _ => ?_)
theorem stencilref01_Bad.mono : ∀ a0 k, LeO (stencilref01_Bad.f k a0) (stencilref01_Bad.f (k + 1) a0) := by
  intro a0 k
  obtain ⟨ih0, ih1⟩ := stencilref01_Bad.mono_l k
  unfold stencilref01_Bad.f
  repeat' first
      | (with_reducible exact ih0 _ _)
      | (with_reducible exact ih1 _ _ _ _ _)
      | (with_reducible exact LeO.refl _)
      | (with_reducible exact LeO.none _)
      | (with_reducible refine LeO.ite ?_ ?_)
      | (with_reducible refine LeO.bind ?_ (fun _ => ?_))
      | exact ih0 _ _
      | exact ih1 _ _ _ _ _
      | exact LeO.none _
      | refine LeO.ite ?_ ?_
      | refine LeO.bind ?_ (fun _ => ?_)
set_option maxHeartbeats 8000000 in
set_option maxRecDepth 100000 in
theorem stencilref01_Bad.calls (k : Nat) (a0 : ByteArray) (r1 : Int) (r2 : Bool) (w : World) (HLD : Laid w) (h : stencilref01_Bad.f k a0 = some (r1, r2)) :
    Calls Tryd.prog 55 #[.string a0] w fun e w' => e = .returned (.tuple #[.int .i64 r1, .bool r2]) ∧ Below w.heap.size w w' := by
  have HB := Aside0.mk (Below.refl w.heap.size w)
  have H : (stencilref01_Bad.l0 k a0 0) = some (r1, r2) := h
  clear h
  have H' := Aside0.mk H
  clear H
  go_enter Tryd.func55, Tryd.ntmps55
  go_wp2
  go_loopg [4] k (fun kq v4 w' => ∃ (x4_1 : Int), v4 = .int .i64 x4_1 ∧ Aside0 (stencilref01_Bad.l0 kq a0 x4_1 = some (r1, r2)) ∧ Aside0 (kq ≤ k) ∧ Aside0 (Below w.heap.size w w'))
  case atStart => exact ⟨(0), (by first | rfl | (simp; done) | (simp [*]; done)), H', ⟨Nat.le_refl _⟩, ⟨by repeat (first | (with_reducible first | exact HB.out | apply below_alloc | apply pw_below_drewN | apply below_drew1) | exact HB.out)⟩⟩
  case round =>
    clear H'
    obtain ⟨x4_1, rfl, HA, HK1, HB⟩ := hrel
    cases gk with
    | zero => exact absurd HA.out (by simp [stencilref01_Bad.l0])
    | succ k1 =>
      have H := HA.out
      clear HA
      simp only [stencilref01_Bad.l0] at H
      by_cases c2 : x4_1 < (a0.size : Int)
      · rw [if_pos c2] at H
        have c2b0 : decide (x4_1 < (a0.size : Int)) = true := decide_eq_true c2
        clear c2
        by_cases c3 : 0 ≤ x4_1
        · rw [if_pos c3] at H
          have c3b0 := eq_true c3
          have c3b1 : decide (0 ≤ x4_1) = true := decide_eq_true c3
          clear c3
          by_cases c4 : x4_1 ≤ (a0.size : Int)
          · rw [if_pos c4] at H
            have c4b0 := eq_true c4
            have c4b1 : decide (x4_1 ≤ (a0.size : Int)) = true := decide_eq_true c4
            clear c4
            replace H := Option.bind_eq_some_iff.mp H
            obtain ⟨⟨t140, t141⟩, A50, H⟩ := H
            replace H : (if t140 = 65533 then (stencilref01_Bad.j1 k1 a0 x4_1 t140 t141 (t141 == 1)) else (stencilref01_Bad.j1 k1 a0 x4_1 t140 t141 false)) = some (r1, r2) := H
            have A5 := Aside0.mk A50
            clear A50
            have HC6 := Aside0.mk H
            clear H
            go_upto_region 4 with (first | ((with_reducible refine gate_callee (f := 51) rfl ?_); refine goesL_ (some 15) rfl rfl Tryd.func51 (by kernel_rfl) rfl #[.string (a0.extract (x4_1 : Int).toNat a0.size)] rfl (by (try simp only [List.map_toArray, List.map_cons, List.map_nil]); first | done | rfl | (simp only [List.length_drop, List.length_take]; rfl)) ?_; (with_reducible refine (utf8_DecodeRuneInString.calls (a0.extract (x4_1 : Int).toNat a0.size) t140 t141 _ ?side1 A5.out).mono ?_); (case side1 => first | exact HLD | exact Laid.below HLD (by repeat (first | (with_reducible first | exact HB.out | apply below_alloc | apply pw_below_drewN | apply below_drew1) | exact HB.out))); rintro e w7 ⟨rfl, hb⟩; refine ⟨_, rfl, ?_⟩; have n0_ := Aside0.mk (below_step (by repeat (first | (with_reducible first | exact HB.out | apply below_alloc | apply pw_below_drewN | apply below_drew1) | exact HB.out)) hb); clear HB; have HB := n0_; clear n0_; (try clear hb); (try clear hb2); (try clear hk); (try clear hi)))
            (try simp only [Act.put, List.setIfInBounds_toArray, List.set_cons_zero, List.set_cons_succ])
            go_cut [23] (fun v23 wc => ∃ (kq : Nat) (x23_5 : Bool), v23 = .bool x23_5 ∧ Aside0 (stencilref01_Bad.j1 kq a0 x4_1 t140 t141 x23_5 = some (r1, r2)) ∧ Aside0 (kq ≤ k1) ∧ Aside0 (Below w.heap.size w wc))
            case first =>
              have H := HC6.out
              clear HC6
              by_cases c8 : t140 = 65533
              · rw [if_pos c8] at H
                have c8b0 : (t140 == 65533) = true := beq_iff_eq.mpr c8
                have c8b1 : (t140 != 65533) = false := bne_eq_false_iff_eq.mpr c8
                clear c8
                (first | rw [c8b0] | (simp only [i64_w, i32_w]; rw [c8b0]) | skip)
                have H' := Aside0.mk H
                clear H
                go_wp2
                go_meet
                case rel => exact ⟨_, ((t141 == 1)), (by first | rfl | (simp; done) | (simp [*]; done)), H', ⟨by have := HK1.out; first | omega | exact Nat.le_refl _⟩, ⟨by repeat (first | (with_reducible first | exact HB.out | apply below_alloc | apply pw_below_drewN | apply below_drew1) | exact HB.out)⟩⟩
              · rw [if_neg c8] at H
                have c8b0 : (t140 == 65533) = false := beq_eq_false_iff_ne.mpr c8
                have c8b1 : (t140 != 65533) = true := bne_iff_ne.mpr c8
                (first | rw [c8b0] | (simp only [i64_w, i32_w]; rw [c8b0]) | skip)
                have H' := Aside0.mk H
                clear H
                go_wp2
                go_meet
                case rel => exact ⟨_, (false), (by first | rfl | (simp; done) | (simp [*]; done)), H', ⟨by have := HK1.out; first | omega | exact Nat.le_refl _⟩, ⟨by repeat (first | (with_reducible first | exact HB.out | apply below_alloc | apply pw_below_drewN | apply below_drew1) | exact HB.out)⟩⟩
            case rest =>
              clear HC6
              try clear c2
              try clear c2b0
              try clear p2
              try clear c3
              try clear c3b0
              try clear c3b1
              try clear c4
              try clear c4b0
              try clear c4b1
              try clear c5
              try clear c8
              try clear c8b0
              try clear c8b1
              obtain ⟨kq, x23_5, rfl, HA, HJ5, HB⟩ := hcut
              cases kq with
              | zero => exact absurd HA.out (by simp [stencilref01_Bad.j1])
              | succ kj5 =>
                have H := HA.out
                clear HA
                simp only [stencilref01_Bad.j1] at H
                by_cases c9 : x23_5 = true
                · subst c9
                  have H1 : (some (x4_1, true)) = some (r1, r2) := by rw [if_pos rfl] at H; exact H
                  clear H
                  have H := H1
                  clear H1
                  simp only [Option.some.injEq, Prod.mk.injEq] at H
                  obtain ⟨rfl, rfl⟩ := H
                  go_wp2
                  go_ret2
                  exact ⟨by first | rfl | (simp [errW_none, errW_some] <;> rfl) | (simp [*, errW_none, errW_some] <;> rfl), by repeat (first | (with_reducible first | exact HB.out | apply below_alloc | apply pw_below_drewN | apply below_drew1) | exact HB.out)⟩
                · replace c9 := Bool.eq_false_iff.mpr c9
                  subst c9
                  have H1 : ((stencilref01_IsChar.f t140).bind fun t142 => (if t142 = true then (stencilref01_Bad.l0 kj5 a0 (wrap64 (x4_1 + t141))) else (some (x4_1, false)))) = some (r1, r2) := by rw [if_neg (show ¬ (false = true) by decide)] at H; exact H
                  clear H
                  have H := H1
                  clear H1
                  replace H := Option.bind_eq_some_iff.mp H
                  obtain ⟨t142, A100, H⟩ := H
                  replace H : (if t142 = true then (stencilref01_Bad.l0 kj5 a0 (wrap64 (x4_1 + t141))) else (some (x4_1, false))) = some (r1, r2) := H
                  have A10 := Aside0.mk A100
                  clear A100
                  by_cases c11 : t142 = true
                  · subst c11
                    have H1 : (stencilref01_Bad.l0 kj5 a0 (wrap64 (x4_1 + t141))) = some (r1, r2) := by rw [if_pos rfl] at H; exact H
                    clear H
                    have H := H1
                    clear H1
                    have H' := Aside0.mk H
                    clear H
                    go_wp2_with (first | ((with_reducible refine gate_callee (f := 31) rfl ?_); refine goesL_ (some 26) rfl rfl Tryd.func31 (by kernel_rfl) rfl #[.int .i32 t140] rfl (by (try simp only [List.map_toArray, List.map_cons, List.map_nil]); first | done | rfl | (simp only [List.length_drop, List.length_take]; rfl)) ?_; (with_reducible refine (stencilref01_IsChar.calls t140 true _ ?side1 A10.out).mono ?_); (case side1 => first | exact HLD | exact Laid.below HLD (by repeat (first | (with_reducible first | exact HB.out | apply below_alloc | apply pw_below_drewN | apply below_drew1) | exact HB.out))); rintro e w' ⟨rfl, ⟨nd, rfl⟩⟩; refine ⟨_, rfl, ?_⟩))
                    go_roundg kj5
                    case measure => have := HK1.out; have := HJ5.out; omega
                    case rel => exact ⟨(wrap64 (x4_1 + t141)), (by first | rfl | (simp; done) | (simp [*]; done)), H', ⟨by have := HK1.out; have := HJ5.out; omega⟩, ⟨by repeat (first | (with_reducible first | exact HB.out | apply below_alloc | apply pw_below_drewN | apply below_drew1) | exact HB.out)⟩⟩
                  · replace c11 := Bool.eq_false_iff.mpr c11
                    subst c11
                    have H1 : (some (x4_1, false)) = some (r1, r2) := by rw [if_neg (show ¬ (false = true) by decide)] at H; exact H
                    clear H
                    have H := H1
                    clear H1
                    simp only [Option.some.injEq, Prod.mk.injEq] at H
                    obtain ⟨rfl, rfl⟩ := H
                    go_wp2_with (first | ((with_reducible refine gate_callee (f := 31) rfl ?_); refine goesL_ (some 26) rfl rfl Tryd.func31 (by kernel_rfl) rfl #[.int .i32 t140] rfl (by (try simp only [List.map_toArray, List.map_cons, List.map_nil]); first | done | rfl | (simp only [List.length_drop, List.length_take]; rfl)) ?_; (with_reducible refine (stencilref01_IsChar.calls t140 false _ ?side1 A10.out).mono ?_); (case side1 => first | exact HLD | exact Laid.below HLD (by repeat (first | (with_reducible first | exact HB.out | apply below_alloc | apply pw_below_drewN | apply below_drew1) | exact HB.out))); rintro e w' ⟨rfl, ⟨nd, rfl⟩⟩; refine ⟨_, rfl, ?_⟩))
                    go_ret2
                    exact ⟨by first | rfl | (simp [errW_none, errW_some] <;> rfl) | (simp [*, errW_none, errW_some] <;> rfl), by repeat (first | (with_reducible first | exact HB.out | apply below_alloc | apply pw_below_drewN | apply below_drew1) | exact HB.out)⟩
          · rw [if_neg c4] at H
            exact absurd H (by simp)
        · rw [if_neg c3] at H
          exact absurd H (by simp)
      · rw [if_neg c2] at H
        have c2b0 : decide (x4_1 < (a0.size : Int)) = false := decide_eq_false c2
        clear c2
        simp only [Option.some.injEq, Prod.mk.injEq] at H
        obtain ⟨rfl, rfl⟩ := H
        go_wp2
        go_ret2
        exact ⟨by first | rfl | (simp [errW_none, errW_some] <;> rfl) | (simp [*, errW_none, errW_some] <;> rfl), by repeat (first | (with_reducible first | exact HB.out | apply below_alloc | apply pw_below_drewN | apply below_drew1) | exact HB.out)⟩

end Go.Proofs.YtinefoocajnhmaaDoor.Print
