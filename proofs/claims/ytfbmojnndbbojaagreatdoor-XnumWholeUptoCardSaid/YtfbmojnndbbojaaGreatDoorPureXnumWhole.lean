/- XnumWhole, without Go and memory. -/
import Derived.Test.YtfbmojnndbbojaaGreatDoorPrintf7
import Derived.Test.YtfbmojnndbbojaaGreatDoorPrintf25
import Derived.Test.YtfbmojnndbbojaaGreatDoorPrintf11
import Derived.Test.YtfbmojnndbbojaaGreatDoorNumW
import Derived.Test.YtfbmojnndbbojaaGreatDoorNumLive
namespace Go.Proofs.YtfbmojnndbbojaaGreatDoor.Pure
open Go.RowKit Go.Proofs.YtfbmojnndbbojaaGreatDoorW.PrintWords Go.Proofs.YtfbmojnndbbojaaGreatDoor.Plain Go.Proofs.YtfbmojnndbbojaaGreatDoor.Print Go.Proofs.YtfbmojnndbbojaaGreatDoor.NumO Go.Proofs.YtfbmojnndbbojaaGreatDoor.NumA Go.Proofs.YtfbmojnndbbojaaGreatDoor.NumW Go.Proofs.YtfbmojnndbbojaaGreatDoor.NumLive
theorem rfloor_f {v : Int} (h : -2000000000000000000 ≤ v ∧ v ≤ 2000000000000000000) : stencilref02_Floor.f 0 v = some (0, flN v) := by
  unfold stencilref02_Floor.f
  rw [if_pos rfl]
  have t1 := tdiv6 v
  generalize Int.tdiv v 1000000 = t at *
  have e1 : wrap64 t = t := by rcases Int.lt_or_le v 0 with hv | hv <;> exact w64 (by omega) (by omega)
  have e2 : wrap64 (t * 1000000) = t * 1000000 := by rcases Int.lt_or_le v 0 with hv | hv <;> exact w64 (by omega) (by omega)
  rw [e1, e2]
  have e3 : wrap64 (t * 1000000 - 1000000) = t * 1000000 - 1000000 := by rcases Int.lt_or_le v 0 with hv | hv <;> exact w64 (by omega) (by omega)
  rw [e3]
  unfold stencilref02_Fin.f flN
  simp only [Option.bind_some]
  split
  · congr 2
    rcases Int.lt_or_le v 0 with hv | hv <;> omega
  · congr 2
    rcases Int.lt_or_le v 0 with hv | hv <;> omega
theorem rfloor_n {a : Int} (v : Int) (h : a ≠ 0) : stencilref02_Floor.f a v = some (a, v) := by
  unfold stencilref02_Floor.f
  rw [if_neg h]
theorem rneg_0 {v : Int} (h : -2000000000000000000 ≤ v ∧ v ≤ 2000000000000000000) : stencilref02_Neg.f 0 v = some (0, -v) := by
  unfold stencilref02_Neg.f stencilref02_Fin.f
  rw [if_neg (by decide), if_neg (by decide), if_neg (by decide), w64 (by omega) (by omega)]
  rfl
theorem rceil_f {v : Int} (h : -1000000000000000000 ≤ v ∧ v ≤ 1000000000000000000) : stencilref02_Ceiling.f 0 v = some (0, -(flN (-v))) := by
  unfold stencilref02_Ceiling.f
  rw [rneg_0 (by omega), Option.bind_some]
  show ((stencilref02_Floor.f 0 (-v)).bind fun bt => (stencilref02_Neg.f bt.1 bt.2).bind fun bt2 => some (bt2.1, bt2.2)) = _
  rw [rfloor_f (by omega), Option.bind_some]
  show ((stencilref02_Neg.f 0 (flN (-v))).bind fun bt2 => some (bt2.1, bt2.2)) = _
  rw [rneg_0 (by unfold flN; omega)]
  rfl
theorem rceil_n {a : Int} (h : a = 1 ∨ a = 2 ∨ a = 3) : stencilref02_Ceiling.f a 0 = some (a, 0) := by
  rcases h with rfl | rfl | rfl <;> kernel_rfl
theorem rround_f {v : Int} (h : -1000000000000000000 ≤ v ∧ v ≤ 1000000000000000000) : stencilref02_Round.f 0 v = some (0, flN (v + 500000)) := by
  unfold stencilref02_Round.f
  rw [if_pos rfl, rfloor_f (by omega), Option.bind_some]
  show (if wrap64 (v - flN v) ≥ 500000 then ((stencilref02_Fin.f (wrap64 (flN v + 1000000))).bind fun bt => some (bt.1, bt.2)) else some (0, flN v)) = _
  have e1 : wrap64 (v - flN v) = v - flN v := w64 (by unfold flN; omega) (by unfold flN; omega)
  have e2 : wrap64 (flN v + 1000000) = flN v + 1000000 := w64 (by unfold flN; omega) (by unfold flN; omega)
  rw [e1, e2]
  unfold stencilref02_Fin.f
  split
  · show some ((0 : Int), flN v + 1000000) = _
    congr 2
    unfold flN at *
    omega
  · congr 2
    unfold flN at *
    omega
theorem rround_n {a : Int} (v : Int) (h : a ≠ 0) : stencilref02_Round.f a v = some (a, v) := by
  unfold stencilref02_Round.f
  rw [if_neg h]
theorem int_same (n : Int) : ∃ x, xnum_Int.f n = some x ∧ stencilref02_Int.f n = some x := by
  unfold xnum_Int.f stencilref02_Int.f xnum_inf.f stencilref02_Inf.f stencilref02_Fin.f
  by_cases h1 : n > 1000000000000
  · rw [if_pos h1, if_pos h1, decide_eq_false (show ¬ n < 0 by omega)]
    exact ⟨(2, 0), rfl, rfl⟩
  · rw [if_neg h1, if_neg h1]
    by_cases h2 : n < -1000000000000
    · rw [if_pos h2, if_pos h2, decide_eq_true (show n < 0 by omega)]
      exact ⟨(3, 0), rfl, rfl⟩
    · rw [if_neg h2, if_neg h2]
      exact ⟨_, rfl, rfl⟩
theorem right_same (a v : Int) : xnum_Right.f a v = some (decide (RightP a v)) := by
  by_cases hR : RightP a v
  · rw [decide_eq_true hR]
    unfold RightP at hR
    unfold xnum_Right.f
    by_cases h1 : a = 0
    · rw [if_pos h1, if_pos (by omega), decide_eq_true (by omega)]
    · rw [if_neg h1, if_pos (by omega), if_pos (by omega)]
      have hv : v = 0 := by omega
      rw [hv]
      rfl
  · rw [decide_eq_false hR]
    unfold RightP at hR
    unfold xnum_Right.f
    by_cases h1 : a = 0
    · rw [if_pos h1]
      by_cases h2 : v ≥ -1000000000000000000
      · rw [if_pos h2, decide_eq_false (by omega)]
      · rw [if_neg h2]
    · rw [if_neg h1]
      by_cases h2 : a > 0
      · rw [if_pos h2]
        by_cases h3 : a ≤ 3
        · rw [if_pos h3]
          have hv : v ≠ 0 := by omega
          simp [hv]
        · rw [if_neg h3]
      · rw [if_neg h2]
theorem floor_t (a v : Int) : ∃ x, xnum_Floor.f a v = some x := by
  unfold xnum_Floor.f; split <;> exact ⟨_, rfl⟩
theorem round_t (a v : Int) : ∃ x, xnum_Round.f a v = some x := by
  unfold xnum_Round.f
  split
  · obtain ⟨x, hx⟩ := floor_t a (wrap64 (v + 500000)); rw [hx]; exact ⟨_, rfl⟩
  · obtain ⟨x, hx⟩ := floor_t a v; rw [hx]; exact ⟨_, rfl⟩
theorem neg_t (k : Nat) (a v : Int) : ∃ x, xnum_Neg.f (k + 1) a v = some x := by
  unfold xnum_Neg.f
  simp only [xnum_Neg.j0, xnum_inf.f, xnum_nan.f]
  by_cases a0 : a = 0
  · simp [a0]
  · by_cases a2 : a = 2
    · simp [a2]
    · by_cases a3 : a = 3
      · simp [a3]
      · simp [a0, a2, a3]
theorem ceil_t (k : Nat) (a v : Int) : ∃ x, xnum_Ceiling.f (k + 1) a v = some x := by
  unfold xnum_Ceiling.f
  obtain ⟨x, hx⟩ := neg_t k a v
  obtain ⟨y, hy⟩ := floor_t x.1 x.2
  obtain ⟨z, hz⟩ := neg_t k y.1 y.2
  refine ⟨(z.1, z.2), ?_⟩
  rw [hx, Option.bind_some, hy, Option.bind_some, hz, Option.bind_some]
theorem XnumWhole (a v n : Int) (_ : (Lit.int .i64 a).wf = true) (_ : (Lit.int .i64 v).wf = true) (_ : (Lit.int .i64 n).wf = true) :
    ∃ k, stencillaw02_XnumWhole.f k a v n = some true := by
  refine ⟨64, ?_⟩
  have lv : stencillaw02_live.f 64 = some true := live_f
  unfold stencillaw02_XnumWhole.f
  rw [right_same, Right_f]
  by_cases h : RightP a v
  · obtain ⟨x, hx, hx2⟩ := int_same n
    have hv := right_v h
    have e : decide (RightP a v) = true := decide_eq_true h
    by_cases ha : a = 0
    · subst ha
      rw [floor_f (by omega), ceil_f 63 (by omega), round_f (by omega), rfloor_f (by omega), rceil_f (by omega), rround_f (by omega), hx, hx2, lv]
      simp [e]
    · have hv0 := right_0 h ha
      subst hv0
      have ha2 : a = 1 ∨ a = 2 ∨ a = 3 := by have := right_a h; omega
      rw [floor_n 0 ha, ceil_n 63 ha2, round_n 0 ha, rfloor_n 0 ha, rceil_n ha2, rround_n 0 ha, hx, hx2, lv]
      simp [e]
  · have e : decide (RightP a v) = false := decide_eq_false h
    obtain ⟨x, hx⟩ := floor_t a v
    obtain ⟨y, hy⟩ := ceil_t 63 a v
    obtain ⟨z, hz⟩ := round_t a v
    rw [hx, hy, hz, lv]
    simp [e]
end Go.Proofs.YtfbmojnndbbojaaGreatDoor.Pure
