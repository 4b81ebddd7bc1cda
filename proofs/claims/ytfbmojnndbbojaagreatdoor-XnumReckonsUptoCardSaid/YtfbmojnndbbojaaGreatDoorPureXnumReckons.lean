/- XnumReckons, without Go and memory. -/
import Derived.Test.YtfbmojnndbbojaaGreatDoorPrintf5
import Derived.Test.YtfbmojnndbbojaaGreatDoorPrintf18
import Derived.Test.YtfbmojnndbbojaaGreatDoorPrintf47
import Derived.Test.YtfbmojnndbbojaaGreatDoorPrintf21
import Derived.Test.YtfbmojnndbbojaaGreatDoorPrintf22
import Derived.Test.YtfbmojnndbbojaaGreatDoorPrintf121
import Derived.Test.YtfbmojnndbbojaaGreatDoorPrintxnumsplit
import Derived.Test.YtfbmojnndbbojaaGreatDoorNumRef
import Derived.Test.YtfbmojnndbbojaaGreatDoorNumRt
namespace Go.Proofs.YtfbmojnndbbojaaGreatDoor.Pure
open Go.RowKit Go.Proofs.YtfbmojnndbbojaaGreatDoorW.PrintWords Go.Proofs.YtfbmojnndbbojaaGreatDoor.Plain Go.Proofs.YtfbmojnndbbojaaGreatDoor.Print Go.Proofs.YtfbmojnndbbojaaGreatDoor.NumO Go.Proofs.YtfbmojnndbbojaaGreatDoor.NumA Go.Proofs.YtfbmojnndbbojaaGreatDoor.NumQ
set_option linter.unusedSimpArgs false
set_option maxRecDepth 100000 in
theorem live_602 : stencillaw02_live.f 602 = some true := by kernel_rfl
theorem parts_t (a v : Int) : ∃ x y, xnum_parts.f a v = some (x, y) ∧ 0 ≤ x ∧ x < 18446744073709551616 := by
  unfold xnum_parts.f
  split
  · exact ⟨_, _, rfl, by rw [wu]; omega, by rw [wu]; omega⟩
  · exact ⟨_, _, rfl, by rw [wu]; omega, by rw [wu]; omega⟩
theorem inf_t (b : Bool) : ∃ x, xnum_inf.f b = some x := by cases b <;> exact ⟨_, rfl⟩
theorem fin_t (n : Int) (b : Bool) : ∃ x, xnum_fin.f n b = some x := by
  unfold xnum_fin.f
  obtain ⟨x, hx⟩ := inf_t b
  by_cases h : n > 1000000000000000000
  · rw [if_pos h, hx]
    exact ⟨_, rfl⟩
  · rw [if_neg h]
    cases b <;> exact ⟨_, rfl⟩
theorem mul64_t (x y : Int) : ∃ p q, bits_Mul64.f x y = some (p, q) ∧ 0 ≤ p ∧ p < 18446744073709551616 ∧ 0 ≤ q ∧ q < 18446744073709551616 := by
  unfold bits_Mul64.f
  refine ⟨_, _, rfl, ?_, ?_, ?_, ?_⟩
  · rw [IntKind.wrap_u64]; exact Int.emod_nonneg _ (by decide)
  · rw [IntKind.wrap_u64]; exact Int.emod_lt_of_pos _ (by decide)
  · rw [IntKind.wrap_u64]; exact Int.emod_nonneg _ (by decide)
  · rw [IntKind.wrap_u64]; exact Int.emod_lt_of_pos _ (by decide)
theorem split_t {p q d : Int} (h1 : 0 ≤ p) (h2 : p < 18446744073709551616) (h3 : 0 ≤ q) (h4 : q < 18446744073709551616) (h5 : 0 < d) (h6 : d < 18446744073709551616) : ∃ x, xnum_split.f p q d = some x := by
  unfold xnum_split.f
  rw [if_pos ⟨h1, h2, h3, h4, h5, h6⟩]
  exact ⟨_, rfl⟩
theorem neg_t (k : Nat) (a v : Int) : ∃ x, xnum_Neg.f (k + 1) a v = some x := by
  unfold xnum_Neg.f
  simp only [xnum_Neg.j0, xnum_inf.f, xnum_nan.f]
  by_cases a0 : a = 0
  · simp [a0]
  · by_cases a2 : a = 2
    · simp [a2]
    · by_cases a3 : a = 3
      · simp [a3]
      · simp [a0, a2, a3]
theorem add_t (k : Nat) (a v b w : Int) : ∃ x, xnum_Add.f (k + 2) a v b w = some x := by
  unfold xnum_Add.f
  simp only [xnum_Add.j0, xnum_Add.j1, xnum_nan.f]
  obtain ⟨x, y, hp, _⟩ := parts_t 0 (wrap64 (v + w))
  obtain ⟨z, hz⟩ := fin_t x y
  rw [hp]
  simp only [obind]
  rw [hz]
  simp only [obind]
  by_cases a1 : a = 1
  · simp [a1]
  · by_cases b1 : b = 1
    · simp [a1, b1]
    · by_cases a0 : a = 0
      · by_cases b0 : b = 0
        · simp [a0, b0]
        · simp [a0, b0, b1]
      · by_cases b0 : b = 0
        · simp [a1, a0, b0]
        · by_cases ab : a = b
          · subst ab; simp [a1, a0]
          · simp [a1, b1, a0, b0, ab]
theorem sub_t (k : Nat) (a v b w : Int) : ∃ x, xnum_Sub.f (k + 2) a v b w = some x := by
  unfold xnum_Sub.f
  obtain ⟨x, hx⟩ := neg_t (k + 1) b w
  obtain ⟨y, hy⟩ := add_t k a v x.1 x.2
  refine ⟨(y.1, y.2), ?_⟩
  rw [hx, obind, hy, obind]
theorem mul_t (k : Nat) (a v b w : Int) : ∃ x, xnum_Mul.f (k + 2) a v b w = some x := by
  unfold xnum_Mul.f
  rw [sign_f, obind, sign_f, obind]
  generalize decide (wrap64 (sgnN a v * sgnN b w) < 0) = s
  obtain ⟨x1, y1, hp1, h1, h2⟩ := parts_t a v
  obtain ⟨x2, y2, hp2, h3, h4⟩ := parts_t b w
  obtain ⟨p, q, hm, h5, h6, h7, h8⟩ := mul64_t x1 x2
  obtain ⟨z, hz⟩ := split_t h5 h6 h7 h8 (show (0 : Int) < 1000000 by decide) (by decide)
  obtain ⟨u, hu⟩ := fin_t z.1 s
  obtain ⟨i, hi⟩ := inf_t s
  have J1 : ∀ t, ∃ x, xnum_Mul.j1 (k + 1) s t a v b w = some x := by
    intro t
    rw [xnum_Mul.j1]
    cases t
    · rw [if_neg (by decide), sign_f, obind, sign_f, obind]
      split
      · exact ⟨_, rfl⟩
      · rw [hi]; exact ⟨_, rfl⟩
    · rw [if_pos rfl, hp1, obind, hp2, obind]
      simp only
      rw [hm, obind]
      simp only
      rw [hz, obind, hu, obind]
      exact ⟨_, rfl⟩
  have J0 : ∀ t, ∃ x, xnum_Mul.j0 (k + 2) s t a v b w = some x := by
    intro t
    rw [xnum_Mul.j0]
    cases t
    · rw [if_neg (by decide)]
      split
      · exact J1 _
      · exact J1 _
    · rw [if_pos rfl]; exact ⟨_, rfl⟩
  split
  · exact J0 _
  · exact J0 _
theorem div_t (k : Nat) (a v b w : Int) : ∃ x, xnum_Div.f (k + 2) a v b w = some x := by
  unfold xnum_Div.f
  obtain ⟨x1, y1, hp1, h1, h2⟩ := parts_t a v
  obtain ⟨x2, y2, hp2, h3, h4⟩ := parts_t b w
  rw [hp1, obind, hp2, obind]
  simp only
  have J1 : ∀ t, ∃ x, xnum_Div.j1 (k + 1) x1 y1 x2 y2 t = some x := by
    intro t
    rw [xnum_Div.j1]
    cases t
    · rw [if_neg (by decide)]
      by_cases h0 : x2 = 0
      · rw [if_pos h0]
        obtain ⟨i, hi⟩ := inf_t y1
        rw [hi]; exact ⟨_, rfl⟩
      · rw [if_neg h0]
        obtain ⟨p, q, hm, h5, h6, h7, h8⟩ := mul64_t x1 1000000
        obtain ⟨z, hz⟩ := split_t h5 h6 h7 h8 (show 0 < x2 by omega) h4
        obtain ⟨u, hu⟩ := fin_t z.1 (y1 != y2)
        rw [hm, obind]
        simp only
        rw [hz, obind, hu, obind]
        exact ⟨_, rfl⟩
    · rw [if_pos rfl]; exact ⟨_, rfl⟩
  have J0 : ∀ t, ∃ x, xnum_Div.j0 (k + 2) x1 y1 x2 y2 t a v b w = some x := by
    intro t
    rw [xnum_Div.j0]
    cases t
    · rw [if_neg (by decide)]
      split
      · split
        · split
          · exact J1 _
          · exact J1 _
        · exact ⟨_, rfl⟩
      · obtain ⟨i, hi⟩ := inf_t ((a == 3) != y2)
        rw [hi]; exact ⟨_, rfl⟩
    · rw [if_pos rfl]; exact ⟨_, rfl⟩
  split
  · exact J0 _
  · split
    · exact J0 _
    · split
      · exact J0 _
      · exact J0 _
theorem XnumReckons (a v b w : Int) (_ : (Lit.int .i64 a).wf = true) (_ : (Lit.int .i64 v).wf = true) (_ : (Lit.int .i64 b).wf = true) (_ : (Lit.int .i64 w).wf = true) :
    ∃ k, stencillaw02_XnumReckons.f k a v b w = some true := by
  refine ⟨602, ?_⟩
  unfold stencillaw02_XnumReckons.f
  rw [right_f, live_602]
  by_cases h : RightP a v ∧ RightP b w
  · have hv := right_v h.1
    have hw := right_v h.2
    have e : decide (RightP a v ∧ RightP b w) = true := decide_eq_true h
    rw [add_f 600 (by omega) (by omega), sub_f 600 (by omega) (by omega), mul_f 600 (by omega) (by omega), div_f 600 h.1 h.2, mod_f 601, radd_f 599 h.1 h.2, rsub_f 599 h.1 h.2, rmul_f 0 h.1 h.2, rdiv_f 552 h.1 h.2, rmod_f 599 h.1 h.2, neg_f 601 (by omega), rneg_f h.1, e]
    simp only [obind, beq_self_eq_true, Bool.and_self, if_true]
  · have e : decide (RightP a v ∧ RightP b w) = false := decide_eq_false h
    obtain ⟨x1, h1⟩ := add_t 600 a v b w
    obtain ⟨x2, h2⟩ := sub_t 600 a v b w
    obtain ⟨x3, h3⟩ := mul_t 600 a v b w
    obtain ⟨x4, h4⟩ := div_t 600 a v b w
    rw [h1, h2, h3, h4, mod_f 601, e]
    simp only [obind, Bool.false_eq_true, if_false]
end Go.Proofs.YtfbmojnndbbojaaGreatDoor.Pure
