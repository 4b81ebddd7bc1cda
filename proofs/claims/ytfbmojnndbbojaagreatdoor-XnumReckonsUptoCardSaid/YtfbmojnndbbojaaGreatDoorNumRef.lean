/- The document's sums, products, quotients, rests, without Go and memory. -/
import Derived.Test.YtfbmojnndbbojaaGreatDoorPrintf26
import Derived.Test.YtfbmojnndbbojaaGreatDoorPrintf28
import Derived.Test.YtfbmojnndbbojaaGreatDoorPrintf29
import Derived.Test.YtfbmojnndbbojaaGreatDoorPrintf30
import Derived.Test.YtfbmojnndbbojaaGreatDoorPrintf18
import Derived.Test.YtfbmojnndbbojaaGreatDoorPrintf80
import Derived.Test.YtfbmojnndbbojaaGreatDoorPrintf22
import Derived.Test.YtfbmojnndbbojaaGreatDoorNumA
import Derived.Test.YtfbmojnndbbojaaGreatDoorNumQ
namespace Go.Proofs.YtfbmojnndbbojaaGreatDoor.NumQ
open Go.RowKit Go.Proofs.YtfbmojnndbbojaaGreatDoorW.PrintWords Go.Proofs.YtfbmojnndbbojaaGreatDoor.Plain Go.Proofs.YtfbmojnndbbojaaGreatDoor.Print Go.Proofs.YtfbmojnndbbojaaGreatDoor.NumO Go.Proofs.YtfbmojnndbbojaaGreatDoor.NumA
set_option linter.unusedSimpArgs false
set_option linter.unusedVariables false
theorem made_f (k : Nat) {n : Int} (b : Bool) (h : 0 ≤ n) : stencilref02_made.f (k + 1) n b false = some (finS n b) := by
  unfold stencilref02_made.f finS
  rw [if_neg (by decide)]
  by_cases h1 : n > 1000000000000000000
  · rw [decide_eq_true h1, if_pos h1]
    cases b <;> rfl
  · rw [decide_eq_false h1, if_neg h1]
    have e : wrap64 n = n := w64 (by omega) (by omega)
    have e2 : wrap64 (-n) = -n := w64 (by omega) (by omega)
    cases b
    · simp [stencilref02_made.j0, stencilref02_Fin.f, e]
    · simp [stencilref02_made.j0, stencilref02_Fin.f, e, e2]
theorem made_told {r : Option (Int × Bool)} {v : Nat} (h : Told r v) (k : Nat) (s : Bool) : (r.bind fun bt => (stencilref02_made.f (k + 1) bt.1 s bt.2).bind fun b2 => some (b2.1, b2.2)) = some (finS (v : Int) s) := by
  obtain ⟨X, h1, h2⟩ := h
  rw [h1, Option.bind_some]
  by_cases hv : v > 1000000000000000000
  · rw [decide_eq_true hv]
    unfold stencilref02_made.f finS
    rw [if_pos (show (v : Int) > 1000000000000000000 by omega)]
    cases s <;> rfl
  · rw [decide_eq_false hv, h2 (by omega)]
    show ((stencilref02_made.f (k + 1) (v : Int) s false).bind fun b2 => some (b2.1, b2.2)) = _
    rw [made_f k s (Int.natCast_nonneg v)]
    rfl
theorem size_f (a : Int) {v : Int} (h : -1000000000000000000 ≤ v ∧ v ≤ 1000000000000000000) : stencilref02_size.f a v = some (v.natAbs : Int) := by
  unfold stencilref02_size.f
  by_cases h1 : v < 0
  · rw [if_pos h1, w64 (x := v + 1) (by omega) (by omega), w64 (by omega) (by omega), wu, wu]
    congr 1
    omega
  · rw [if_neg h1, wu]
    congr 1
    omega
theorem rsign_f (k : Nat) {a v : Int} (h : RightP a v) (h1 : a ≠ 1) : stencilref02_sign.f (k + 1) a v = some (sgnN a v) := by
  have ha := right_a h
  have h0 := right_0 h
  unfold stencilref02_sign.f sgnN cmpN
  simp only [stencilref02_sign.j0]
  rcases ha with rfl | rfl | rfl | rfl
  · by_cases h2 : v < 0
    · simp [h2]
    · by_cases h3 : v = 0
      · simp [h3]
      · have h4 : v > 0 := by omega
        simp [h2, h3, h4]
  · exact absurd rfl h1
  · simp
  · simp
theorem rneg_f {a v : Int} (h : RightP a v) : stencilref02_Neg.f a v = some (negN a v) := by
  have ha := right_a h
  have hv := right_v h
  unfold stencilref02_Neg.f negN stencilref02_Fin.f stencilref02_Nan.f stencilref02_Inf.f
  rcases ha with rfl | rfl | rfl | rfl
  · simp
    exact w64 (by omega) (by omega)
  · simp
  · simp
  · simp
theorem radd_f (k : Nat) {a v b w : Int} (h : RightP a v) (h2 : RightP b w) : stencilref02_Add.f (k + 3) a v b w = some (addN a v b w) := by
  have ha := right_a h
  have hb := right_a h2
  have hv := right_v h
  have hw := right_v h2
  have e : wrap64 (v + w) = v + w := w64 (by omega) (by omega)
  have e2 : wrap64 (-(v + w)) = -(v + w) := w64 (by omega) (by omega)
  unfold stencilref02_Add.f addN
  simp only [stencilref02_Add.j0, stencilref02_Add.j1, stencilref02_Nan.f, e, e2]
  rcases ha with rfl | rfl | rfl | rfl
  · rcases hb with rfl | rfl | rfl | rfl
    · have f := finS_fin (v + w)
      by_cases hs : v + w < 0
      · have e3 : IntKind.u64.wrap (-(v + w)) = ((v + w).natAbs : Int) := by rw [wu]; omega
        rw [decide_eq_true hs] at f
        simp only [if_pos hs, e3, made_f k true (Int.natCast_nonneg _), f]
        simp
      · have e3 : IntKind.u64.wrap (v + w) = ((v + w).natAbs : Int) := by rw [wu]; omega
        rw [decide_eq_false hs] at f
        simp only [if_neg hs, e3, made_f k false (Int.natCast_nonneg _), f]
        simp
    · simp
    · simp
    · simp
  · simp
  · rcases hb with rfl | rfl | rfl | rfl <;> simp
  · rcases hb with rfl | rfl | rfl | rfl <;> simp
theorem negN_right {a v : Int} (h : RightP a v) : RightP (negN a v).1 (negN a v).2 := by
  have ha := right_a h
  have hv := right_v h
  unfold RightP negN
  rcases ha with rfl | rfl | rfl | rfl <;> simp
  omega
theorem rsub_f (k : Nat) {a v b w : Int} (h : RightP a v) (h2 : RightP b w) : stencilref02_Sub.f (k + 3) a v b w = some (addN a v (negN b w).1 (negN b w).2) := by
  unfold stencilref02_Sub.f
  rw [rneg_f h2, Option.bind_some, radd_f k h (negN_right h2)]
  rfl
theorem split_fin (N d : Nat) (hd : 0 < d) (b : Bool) : finS ((splitN N d).1 : Int) b = finS ((N / d : Nat) : Int) b := by
  unfold splitN
  by_cases h : N / d < 18446744073709551616
  · rw [if_pos h]
  · rw [if_neg h]
    unfold finS
    have h1 : ((18446744073709551615 : Nat) : Int) > 1000000000000000000 := by decide
    have h2 : ((N / d : Nat) : Int) > 1000000000000000000 := by omega
    rw [if_pos h1, if_pos h2]
theorem valL_zero (n : Nat) : valL (List.replicate n 0) = 0 := by
  induction n with
  | zero => rfl
  | succ n ih => rw [List.replicate_succ, valL, ih]
theorem rmul_fin {v w : Int} (hv : -1000000000000000000 ≤ v ∧ v ≤ 1000000000000000000) (hw : -1000000000000000000 ≤ w ∧ w ≤ 1000000000000000000) (s : Bool) (k : Nat) : stencilref02_Mul.j1 (k + 600) s false 0 v 0 w = some (finS ((v.natAbs * w.natAbs / 1000000 : Nat) : Int) s) := by
  obtain ⟨xs, x1, x2, x3, x4⟩ := digits_f (x := v.natAbs) (k := k + 599) (by omega) (by omega)
  obtain ⟨ys, y1, y2, y3, y4⟩ := digits_f (x := w.natAbs) (k := k + 599) (by omega) (by omega)
  have e1 : wrap64 (wrap64 (((cs xs).length : Int) + ((cs ys).length : Int)) + 1) = ((xs.length + ys.length + 1 : Nat) : Int) := by
    rw [List.length_map, List.length_map, w64 (x := (xs.length : Int) + (ys.length : Int)) (by omega) (by omega), w64 (by omega) (by omega)]
    omega
  have hmul : xs.length * (ys.length + 2) ≤ 19 * 21 := Nat.mul_le_mul x4 (by omega)
  obtain ⟨k1, hk1⟩ : ∃ k1, k + 599 = k1 + xs.length * (ys.length + 2) + 1 := ⟨k + 599 - xs.length * (ys.length + 2) - 1, by omega⟩
  obtain ⟨k2, hk2⟩ : ∃ k2, k1 = k2 + (xs.length + ys.length) + 1 := ⟨k1 - (xs.length + ys.length) - 1, by omega⟩
  obtain ⟨z1, g1, g2, g3, g4⟩ := mul_l0 s xs ys x3 y3 x4 y4 xs.length 0 k1 0 (List.replicate (xs.length + ys.length + 1) 0) (by omega) (by simp) (by intro d hd; rw [List.eq_of_mem_replicate hd]; exact Nat.le_refl 0) (by omega)
  rw [List.length_replicate] at g2
  obtain ⟨z2, f1, f2, f3, f4, f5⟩ := mul_l2 s (xs.length + ys.length) 0 k2 z1 (by omega) (by omega) (fun p hp _ => by have := g3 z1[p] (List.getElem_mem hp); omega) (fun hp => by have := g3 z1[0] (List.getElem_mem hp); omega) (fun p hp h0 => by omega)
  rw [valL_zero, Nat.pow_zero, Nat.one_mul, Nat.zero_add, List.drop_zero, x2, y2] at g4
  have hw2 := whole_f z2 (fun d hd => by have := f5 d hd; omega) k2 (by omega) (by omega)
  have hq : valL (z2.drop 6) = v.natAbs * w.natAbs / 1000000 := by
    rw [← g4, ← f3]
    by_cases h6 : 7 ≤ z2.length
    · have ec := valL_cut z2 6 (by omega)
      have hlt := valL_lt (l := z2.take 6) (fun d hd => by
        obtain ⟨p, hp, rfl⟩ := List.getElem_of_mem hd
        rw [List.length_take] at hp
        rw [List.getElem_take]
        exact f4 p (by omega) (by omega))
      rw [List.length_take, Nat.min_eq_left (by omega), show (10 : Nat) ^ 6 = 1000000 from rfl] at hlt
      rw [show (10 : Nat) ^ 6 = 1000000 from rfl] at ec
      omega
    · have hx := valL_lt x3
      have hy := valL_lt y3
      have h7 : z2.drop 6 = [] := List.drop_eq_nil_of_le (by omega)
      have h8 : valL z2 < 10 ^ (xs.length + ys.length) := by
        rw [f3, g4, ← x2, ← y2, Nat.pow_add]
        exact Nat.mul_lt_mul'' hx hy
      have h9 : 10 ^ (xs.length + ys.length) ≤ 10 ^ 6 := Nat.pow_le_pow_right (by decide) (by omega)
      rw [show (10 : Nat) ^ 6 = 1000000 from rfl] at h9
      rw [h7, Nat.div_eq_of_lt (by omega)]
      rfl
  obtain ⟨k3, hk3⟩ : ∃ k3, k2 = k3 + 1 := ⟨k2 - 1, by omega⟩
  have c0 : ¬ (false = true) := by decide
  have c1 : (0 : Int) ≤ ((xs.length + ys.length + 1 : Nat) : Int) := Int.natCast_nonneg _
  have c2 : xs.length + ys.length + 1 ≤ 35184372088832 := by omega
  have er : List.replicate (xs.length + ys.length + 1) (0 : Int) = cs (List.replicate (xs.length + ys.length + 1) 0) := by unfold cs; rw [List.map_replicate]; rfl
  rw [show k + 600 = (k + 599) + 1 from rfl, stencilref02_Mul.j1, if_neg c0, size_f 0 hv, Option.bind_some, x1, Option.bind_some, size_f 0 hw, Option.bind_some, y1, Option.bind_some, e1, if_pos c1, Int.toNat_natCast, if_pos c2, er, hk1]
  show stencilref02_Mul.l0 (k1 + xs.length * (ys.length + 2) + 1) s (cs xs) (cs ys) (cs (List.replicate (xs.length + ys.length + 1) 0)) ((0 : Nat) : Int) = _
  rw [g1, hk2]
  show stencilref02_Mul.l2 (k2 + (xs.length + ys.length) + 1) s (cs z1) ((0 : Nat) : Int) = _
  rw [f1, hk3]
  rw [hk3] at hw2
  rw [made_told hw2 k3 s, hq]
theorem rmul_inf (k : Nat) {a v b w : Int} (h : RightP a v) (h2 : RightP b w) (a1 : a ≠ 1) (b1 : b ≠ 1) : stencilref02_Mul.j1 (k + 601) (decide (sgnN a v * sgnN b w < 0)) true a v b w = some (if sgnN a v * sgnN b w = 0 then (1, 0) else if sgnN a v * sgnN b w < 0 then (3, 0) else (2, 0)) := by
  rw [show k + 601 = (k + 600) + 1 from rfl, stencilref02_Mul.j1, if_pos rfl, rsign_f (k + 599) h a1, obind, rsign_f (k + 599) h2 b1, obind]
  simp only [show k + 600 = (k + 599) + 1 from rfl, stencilref02_Mul.j2, stencilref02_Nan.f, stencilref02_Inf.f]
  generalize sgnN a v = p
  generalize sgnN b w = q
  by_cases hp : p = 0
  · simp [hp]
  · by_cases hq : q = 0
    · simp [hq]
    · have hpq : p * q ≠ 0 := Int.mul_ne_zero hp hq
      by_cases hl : p * q < 0
      · simp [hp, hq, hl]
      · simp [hp, hq, hl]
theorem rmul_f (k : Nat) {a v b w : Int} (h : RightP a v) (h2 : RightP b w) : stencilref02_Mul.f (k + 602) a v b w = some (mulN a v b w) := by
  have ha := right_a h
  have hb := right_a h2
  have hv := right_v h
  have hw := right_v h2
  have e : wrap64 (sgnN a v * sgnN b w) = sgnN a v * sgnN b w := by
    rcases sgn_3 a v with h | h | h <;> rcases sgn_3 b w with h2 | h2 | h2 <;> rw [h, h2] <;> exact w64 (by omega) (by omega)
  unfold stencilref02_Mul.f mulN
  by_cases a1 : a = 1
  · simp [a1, stencilref02_Mul.j0, stencilref02_Nan.f]
  · by_cases b1 : b = 1
    · simp [a1, b1, stencilref02_Mul.j0, stencilref02_Nan.f]
    · have eb : (b == 1) = false := by simpa using b1
      rw [if_neg a1, eb, if_neg (show ¬ (a = 1 ∨ b = 1) by omega)]
      rw [show k + 602 = (k + 601) + 1 from rfl, stencilref02_Mul.j0, if_neg (by decide), rsign_f (k + 600) h a1, obind, rsign_f (k + 600) h2 b1, obind, e]
      by_cases a0 : a = 0
      · by_cases b0 : b = 0
        · subst a0 b0
          rw [if_pos rfl, show ((0 : Int) != 0) = false from rfl, rmul_fin hv hw _ (k + 1), if_pos ⟨rfl, rfl⟩, split_fin _ _ (by decide)]
        · have nb : (b != 0) = true := by simpa using b0
          rw [if_pos a0, nb, if_neg (show ¬ (a = 0 ∧ b = 0) by omega)]
          exact rmul_inf k h h2 a1 b1
      · rw [if_neg a0, if_neg (show ¬ (a = 0 ∧ b = 0) by omega)]
        exact rmul_inf k h h2 a1 b1
/-- the quotient -/
def divN (a v b w : Int) : Int × Int := if a = 1 ∨ b = 1 ∨ (a ≠ 0 ∧ b ≠ 0) then (1, 0) else if a ≠ 0 then (if (a == 3) != decide (w < 0) then (3, 0) else (2, 0)) else if b ≠ 0 then (0, 0) else if w = 0 then (if v = 0 then (1, 0) else if v < 0 then (3, 0) else (2, 0)) else finS ((v.natAbs * 1000000 / w.natAbs : Nat) : Int) (decide (v < 0) != decide (w < 0))
theorem div_f (k : Nat) {a v b w : Int} (h : RightP a v) (h2 : RightP b w) : xnum_Div.f (k + 2) a v b w = some (divN a v b w) := by
  have ha := right_a h
  have hb := right_a h2
  have hv := right_v h
  have hw := right_v h2
  unfold xnum_Div.f divN
  rw [parts_f a v (by omega) (by omega), obind, parts_f b w (by omega) (by omega), obind]
  simp only [xnum_Div.j0, xnum_Div.j1, xnum_nan.f, xnum_inf.f]
  by_cases a1 : a = 1
  · simp [a1]
  · by_cases b1 : b = 1
    · simp [a1, b1]
    · by_cases a0 : a = 0
      · by_cases b0 : b = 0
        · subst a0 b0
          by_cases w0 : w = 0
          · subst w0
            by_cases v0 : v = 0
            · simp [v0]
            · by_cases vn : v < 0
              · simp [v0, vn]
              · simp [v0, vn]
          · have S := splitmul v.natAbs 1000000 w.natAbs (by omega) (by omega) (by omega) (by omega)
            have n6 : ((1000000 : Nat) : Int) = 1000000 := rfl
            rw [n6] at S
            have wn0 : ((w.natAbs : Nat) : Int) ≠ 0 := by omega
            simp only [if_true, if_neg wn0, if_neg w0]
            generalize bits_Mul64.f (v.natAbs : Int) 1000000 = M at *
            cases M with
            | none => simp at S
            | some m =>
              simp only [obind] at S
              have sf := split_fin (v.natAbs * 1000000) w.natAbs (by omega) (decide (v < 0) != decide (w < 0))
              simp [S, fin_f _ _ (Int.natCast_nonneg _), sf]
        · simp [a1, b1, a0, b0]
      · by_cases b0 : b = 0
        · have nb : ¬ ((b != 0) = true) := by simp [b0]
          simp only [a1, b1, a0, b0]
          simp
          split <;> rfl
        · simp [a1, b1, a0, b0]
theorem rdiv_f (k : Nat) {a v b w : Int} (h : RightP a v) (h2 : RightP b w) : stencilref02_Div.f (k + 50) a v b w = some (divN a v b w) := by
  have ha := right_a h
  have hb := right_a h2
  have hv := right_v h
  have hw := right_v h2
  have v0' := right_0 h
  unfold stencilref02_Div.f divN
  rw [show k + 50 = (k + 49) + 1 from rfl]
  simp only [stencilref02_Div.j0, stencilref02_Nan.f, stencilref02_Fin.f, size_f a hv, size_f b hw, obind]
  by_cases a1 : a = 1
  · simp [a1]
  · by_cases b1 : b = 1
    · simp [a1, b1]
    · rw [rsign_f (k + 48) h a1, rsign_f (k + 48) h2 b1]
      by_cases a0 : a = 0
      · by_cases b0 : b = 0
        · subst a0 b0
          by_cases w0 : w = 0
          · subst w0
            by_cases v0 : v = 0
            · simp [v0]
            · by_cases vn : v < 0
              · simp [v0, vn, stencilref02_Inf.f]
              · simp [v0, vn, stencilref02_Inf.f]
          · have T := quot_f (a := v.natAbs) (b := w.natAbs) (k := k + 49) (by omega) (by omega) (by omega) (by omega)
            have e : wrap64 (sgnN 0 v * sgnN 0 w) = sgnN 0 v * sgnN 0 w := by
              rcases sgn_3 0 v with h | h | h <;> rcases sgn_3 0 w with h2 | h2 | h2 <;> rw [h, h2] <;> exact w64 (by omega) (by omega)
            have M := made_told T (k + 48) (decide (sgnN 0 v * sgnN 0 w < 0))
            simp only [if_true, if_neg w0, obind, e]
            simp only [show ¬ ((0 : Int) = 1) by decide, if_false, false_or, not_true_eq_false, false_and, if_false, ne_eq, Bool.false_eq_true]
            rw [M]
            congr 1
            by_cases v0 : v = 0
            · subst v0
              simp [finS]
            · congr 1
              unfold sgnN cmpN
              by_cases vn : v < 0
              · by_cases wn : w < 0
                · simp [vn, wn]
                · have wp : w > 0 := by omega
                  simp [vn, wn, wp]
              · have vp : v > 0 := by omega
                by_cases wn : w < 0
                · simp [vn, wn, vp]
                · have wp : w > 0 := by omega
                  simp [vn, wn, vp, wp]
        · simp [a1, b1, a0, b0]
      · by_cases b0 : b = 0
        · have hv0 := v0' a0
          subst hv0 b0
          have ha2 : a = 2 ∨ a = 3 := by omega
          unfold stencilref02_Inf.f sgnN cmpN
          rcases ha2 with rfl | rfl
          · by_cases wn : w < 0
            · simp [wn]
            · by_cases wp : w > 0
              · simp [wn, wp]
              · simp [wn, wp]
          · by_cases wn : w < 0
            · simp [wn]
            · by_cases wp : w > 0
              · simp [wn, wp]
              · simp [wn, wp]
        · simp [a1, b1, a0, b0]
def modN (a v b w : Int) : Int × Int := if a ≠ 0 ∨ b = 1 ∨ (b = 0 ∧ w = 0) then (1, 0) else if b = 0 then (0, Int.tmod v w) else (a, v)
theorem mod_f (k : Nat) (a v b w : Int) : xnum_Mod.f (k + 1) a v b w = some (modN a v b w) := by
  unfold xnum_Mod.f modN
  simp only [xnum_Mod.j0, xnum_nan.f]
  by_cases a0 : a = 0
  · by_cases b1 : b = 1
    · simp [a0, b1]
    · by_cases b0 : b = 0
      · by_cases w0 : w = 0
        · simp [a0, b0, w0]
        · simp [a0, b0, w0]
      · simp [a0, b1, b0]
  · simp [a0]
theorem rmod_f (k : Nat) {a v b w : Int} (h : RightP a v) (h2 : RightP b w) : stencilref02_Mod.f (k + 3) a v b w = some (modN a v b w) := by
  have ha := right_a h
  have hb := right_a h2
  have hv := right_v h
  have hw := right_v h2
  unfold stencilref02_Mod.f modN
  by_cases a0 : a = 0
  · by_cases b1 : b = 1
    · simp [a0, b1, stencilref02_Mod.j0, stencilref02_Nan.f]
    · rw [rsign_f (k + 2) h2 b1]
      simp only [stencilref02_Mod.j0, stencilref02_Nan.f, size_f a hv, size_f b hw, obind]
      by_cases b0 : b = 0
      · subst a0 b0
        unfold sgnN cmpN
        by_cases w0 : w = 0
        · simp [w0]
        · have wn0 : ((w.natAbs : Nat) : Int) ≠ 0 := by omega
          have e1 : Int.tmod (v.natAbs : Int) (w.natAbs : Int) = ((v.natAbs % w.natAbs : Nat) : Int) := by rw [Int.tmod_eq_emod_of_nonneg (Int.natCast_nonneg _), Int.natCast_emod]
          have e2 : finS ((v.natAbs % w.natAbs : Nat) : Int) (decide (v < 0)) = (0, Int.tmod v w) := by
            have e3 := Int.natAbs_tmod v w
            have e4 : v.natAbs % w.natAbs ≤ v.natAbs := Nat.mod_le _ _
            have e5 := fun h => Int.tmod_nonneg (a := v) w h
            have e6 := fun h => Int.tmod_nonneg (a := -v) w h
            rw [Int.neg_tmod] at e6
            unfold finS
            generalize v.natAbs % w.natAbs = q at *
            generalize Int.tmod v w = t at *
            rw [if_neg (by omega)]
            by_cases vn : v < 0
            · have := e6 (by omega)
              simp [vn]
              omega
            · have := e5 (by omega)
              simp [vn]
              omega
          have sg : ((if w < 0 then -1 else if w > 0 then 1 else 0 : Int) == 0) = false := by
            by_cases wn : w < 0
            · simp [wn]
            · have wp : w > 0 := by omega
              simp [wn, wp]
          simp only [show ¬ ((0 : Int) = 2) by decide, show ¬ ((0 : Int) = 3) by decide, show ¬ ((0 : Int) = 1) by decide, if_false, sg, if_true, Bool.false_eq_true, if_neg wn0, e1, made_f (k + 1) _ (Int.natCast_nonneg _), obind, e2]
          simp [w0]
      · have hb2 : b = 2 ∨ b = 3 := by omega
        unfold sgnN
        rcases hb2 with rfl | rfl <;> simp [a0]
  · simp [a0, stencilref02_Mod.j0, stencilref02_Nan.f]
end Go.Proofs.YtfbmojnndbbojaaGreatDoor.NumQ
