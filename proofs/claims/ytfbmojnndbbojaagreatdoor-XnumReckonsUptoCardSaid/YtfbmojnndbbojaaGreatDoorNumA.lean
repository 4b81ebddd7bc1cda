/- Sums and products of numbers, without Go and memory. -/
import Derived.Test.YtfbmojnndbbojaaGreatDoorPrintf121
import Derived.Test.YtfbmojnndbbojaaGreatDoorPrintf47
import Derived.Test.YtfbmojnndbbojaaGreatDoorPrintf21
import Derived.Test.YtfbmojnndbbojaaGreatDoorPrintf22
import Derived.Test.YtfbmojnndbbojaaGreatDoorPrintxnumsplit
import Derived.Test.YtfbmojnndbbojaaGreatDoorNumB
import Derived.Laws.BitsLemmas
namespace Go.Proofs.YtfbmojnndbbojaaGreatDoor.NumA
open Go.RowKit Go.Proofs.YtfbmojnndbbojaaGreatDoorW.PrintWords Go.Proofs.YtfbmojnndbbojaaGreatDoor.Plain Go.Proofs.YtfbmojnndbbojaaGreatDoor.Print Go.Proofs.YtfbmojnndbbojaaGreatDoor.NumO
/-- a whole number of millionths as a number -/
def finI (s : Int) : Int × Int := if s > 1000000000000000000 then (2, 0) else if s < -1000000000000000000 then (3, 0) else (0, s)
/-- by size and sign -/
def finS (n : Int) (b : Bool) : Int × Int := if n > 1000000000000000000 then (if b then (3, 0) else (2, 0)) else (0, if b then -n else n)
theorem fin_f (n : Int) (b : Bool) (h : 0 ≤ n) : xnum_fin.f n b = some (finS n b) := by
  unfold xnum_fin.f finS
  by_cases h1 : n > 1000000000000000000
  · rw [if_pos h1, if_pos h1]
    cases b <;> rfl
  · rw [if_neg h1, if_neg h1]
    cases b
    · simp; exact w64 (by omega) (by omega)
    · have e : wrap64 n = n := w64 (by omega) (by omega)
      simp only [if_true]
      rw [e, w64 (by omega) (by omega)]
theorem parts_f (k s : Int) (h : -9223372036854775808 < s) (h2 : s < 9223372036854775808) : xnum_parts.f k s = some ((s.natAbs : Int), decide (s < 0)) := by
  unfold xnum_parts.f
  by_cases h1 : s < 0
  · rw [if_pos h1, wu, wu]
    simp only [h1, decide_true]
    congr 2
    omega
  · rw [if_neg h1, wu]
    simp only [h1, decide_false]
    congr 2
    omega
theorem finS_fin (s : Int) : finS (s.natAbs : Int) (decide (s < 0)) = finI s := by
  unfold finS finI
  by_cases h : s < 0
  · simp only [h, decide_true, if_true]
    by_cases h1 : (s.natAbs : Int) > 1000000000000000000
    · rw [if_pos h1, if_neg (by omega), if_pos (by omega)]
    · rw [if_neg h1, if_neg (by omega), if_neg (by omega)]
      congr 1
      omega
  · simp only [h, decide_false, Bool.false_eq_true, if_false]
    by_cases h1 : (s.natAbs : Int) > 1000000000000000000
    · rw [if_pos h1, if_pos (by omega)]
    · rw [if_neg h1, if_neg (by omega), if_neg (by omega)]
      congr 1
      omega
def addN (a v b w : Int) : Int × Int := if a = 1 ∨ b = 1 then (1, 0) else if a = 0 ∧ b = 0 then finI (v + w) else if a = 0 then (b, w) else if b = 0 then (a, v) else if a = b then (a, v) else (1, 0)
theorem add_f (k : Nat) {a v b w : Int} (hv : -2000000000000000000 ≤ v ∧ v ≤ 2000000000000000000) (hw : -2000000000000000000 ≤ w ∧ w ≤ 2000000000000000000) : xnum_Add.f (k + 2) a v b w = some (addN a v b w) := by
  have e : wrap64 (v + w) = v + w := w64 (by omega) (by omega)
  unfold xnum_Add.f addN
  simp only [xnum_Add.j0, xnum_Add.j1, e, parts_f 0 (v + w) (by omega) (by omega), Option.bind_some, fin_f _ _ (Int.natCast_nonneg _), finS_fin, xnum_nan.f]
  by_cases ha : a = 1
  · simp [ha]
  · by_cases hb : b = 1
    · simp [ha, hb]
    · by_cases a0 : a = 0
      · by_cases b0 : b = 0
        · simp [a0, b0]
        · simp [a0, b0, hb]
      · by_cases b0 : b = 0
        · simp [ha, a0, b0]
        · by_cases ab : a = b
          · subst ab; simp [ha, a0]
          · simp [ha, hb, a0, b0, ab]
theorem mul64_at (x y : Nat) (hx : x < 18446744073709551616) (hy : y < 18446744073709551616) : bits_Mul64.f x y = some (((x * y / 18446744073709551616 : Nat) : Int), ((x * y % 18446744073709551616 : Nat) : Int)) := by
  have low : ∀ z : Nat, z < 18446744073709551616 → Go.bits .and .u64 (z : Int) 4294967295 = ((z % 4294967296 : Nat) : Int) := by
    intro z hz
    have := bits_mask .u64 64 (by decide) (fun n h0 h1 => by rw [IntKind.wrap_u64]; omega) 32 (by decide) (z : Int) (by omega) (by omega)
    simpa using this
  unfold bits_Mul64.f
  obtain ⟨x1, x0, ex, hx0, hx1⟩ : ∃ x1 x0 : Nat, x = 4294967296 * x1 + x0 ∧ x0 < 4294967296 ∧ x1 < 4294967296 := ⟨x / 4294967296, x % 4294967296, by omega, by omega, by omega⟩
  obtain ⟨y1, y0, ey, hy0, hy1⟩ : ∃ y1 y0 : Nat, y = 4294967296 * y1 + y0 ∧ y0 < 4294967296 ∧ y1 < 4294967296 := ⟨y / 4294967296, y % 4294967296, by omega, by omega, by omega⟩
  have bound : ∀ p q : Nat, p < 4294967296 → q < 4294967296 → p * q ≤ 18446744065119617025 := fun p q hp hq => Nat.mul_le_mul (show p ≤ 4294967295 by omega) (show q ≤ 4294967295 by omega)
  have dx : (x : Int) / 4294967296 = (x1 : Int) := by omega
  have dy : (y : Int) / 4294967296 = (y1 : Int) := by omega
  have mx0 : x % 4294967296 = x0 := by omega
  have my0 : y % 4294967296 = y0 := by omega
  rw [low x hx, low y hy, dx, dy, mx0, my0]
  have hxy : x * y = 18446744073709551616 * (x1 * y1) + 4294967296 * (x1 * y0) + 4294967296 * (x0 * y1) + x0 * y0 := by
    rw [ex, ey, Nat.add_mul, Nat.mul_add, Nat.mul_add]
    have e1 : 4294967296 * x1 * (4294967296 * y1) = 18446744073709551616 * (x1 * y1) := by
      rw [Nat.mul_mul_mul_comm]
    have e2 : 4294967296 * x1 * y0 = 4294967296 * (x1 * y0) := Nat.mul_assoc _ _ _
    have e3 : x0 * (4294967296 * y1) = 4294967296 * (x0 * y1) := Nat.mul_left_comm _ _ _
    omega
  have bA := bound x1 y1 hx1 hy1
  have bB := bound x1 y0 hx1 hy0
  have bC := bound x0 y1 hx0 hy1
  have bD := bound x0 y0 hx0 hy0
  have cA : (x1 : Int) * (y1 : Int) = ((x1 * y1 : Nat) : Int) := (Int.natCast_mul _ _).symm
  have cB : (x1 : Int) * (y0 : Int) = ((x1 * y0 : Nat) : Int) := (Int.natCast_mul _ _).symm
  have cC : (x0 : Int) * (y1 : Int) = ((x0 * y1 : Nat) : Int) := (Int.natCast_mul _ _).symm
  have cD : (x0 : Int) * (y0 : Int) = ((x0 * y0 : Nat) : Int) := (Int.natCast_mul _ _).symm
  have cX : (x : Int) * (y : Int) = ((x * y : Nat) : Int) := (Int.natCast_mul _ _).symm
  rw [cA, cB, cC, cD, cX, hxy]
  generalize x1 * y1 = A at *
  generalize x1 * y0 = B at *
  generalize x0 * y1 = C at *
  generalize x0 * y0 = D at *
  clear hxy ex ey bound dx dy mx0 my0 cA cB cC cD cX
  simp only [wu]
  have t : (((B : Int) % 18446744073709551616 + (D : Int) % 18446744073709551616 / 4294967296) % 18446744073709551616) = ((B + D / 4294967296 : Nat) : Int) := by omega
  rw [t, low (B + D / 4294967296) (by omega)]
  congr 2
  omega
theorem sub_f (k : Nat) {a v b w : Int} (hv : -2000000000000000000 ≤ v ∧ v ≤ 2000000000000000000) (hw : -2000000000000000000 ≤ w ∧ w ≤ 2000000000000000000) : xnum_Sub.f (k + 2) a v b w = some (addN a v (negN b w).1 (negN b w).2) := by
  unfold xnum_Sub.f
  rw [neg_f (k + 1) hw]
  simp only [Option.bind_some]
  rw [add_f k hv (by unfold negN; split <;> (try split) <;> (try split) <;> simp <;> omega)]
  rfl
theorem addN_comm {a v b w : Int} (h : RightP a v) (h2 : RightP b w) : addN a v b w = addN b w a v := by
  unfold addN
  have e0 := right_0 h
  have e1 := right_0 h2
  rw [Int.add_comm v w]
  by_cases ha : a = 1
  · simp [ha]
  · by_cases hb : b = 1
    · simp [hb]
    · by_cases a0 : a = 0
      · by_cases b0 : b = 0
        · simp [a0, b0]
        · simp [a0, b0, hb]
      · by_cases b0 : b = 0
        · simp [ha, a0, b0]
        · by_cases ab : a = b
          · subst ab; simp [ha, a0, e0 a0, e1 a0]
          · simp [ha, hb, a0, b0, ab, Ne.symm ab]
theorem addN_fin {v w : Int} (h : (addN 0 v 0 w).1 = 0) : addN 0 v 0 w = (0, v + w) ∧ (-1000000000000000000 ≤ v + w ∧ v + w ≤ 1000000000000000000) := by
  have e : addN 0 v 0 w = finI (v + w) := by unfold addN; simp
  rw [e] at h ⊢
  unfold finI at h ⊢
  split at h
  · simp at h
  · split at h
    · simp at h
    · rename_i h1 h2
      rw [if_neg h1, if_neg h2]
      exact ⟨rfl, by omega, by omega⟩
theorem addN_0 {v w : Int} (h : -1000000000000000000 ≤ v + w) (h2 : v + w ≤ 1000000000000000000) : addN 0 v 0 w = (0, v + w) := by
  unfold addN
  rw [if_neg (by decide), if_pos ⟨rfl, rfl⟩]
  unfold finI
  rw [if_neg (by omega), if_neg (by omega)]
def sgnN (a v : Int) : Int := if a = 2 then 1 else if a = 3 then -1 else cmpN v 0
theorem sgn_3 (a v : Int) : sgnN a v = 0 ∨ sgnN a v = 1 ∨ sgnN a v = -1 := by
  unfold sgnN cmpN
  split
  · simp
  · split
    · simp
    · split
      · simp
      · split <;> simp
theorem sign_f (a v : Int) : xnum_sign.f a v = some (sgnN a v) := by
  unfold xnum_sign.f sgnN
  rw [cmp64_f]
  simp only [Option.bind_some]
  split
  · rfl
  · split <;> rfl
def mulN (a v b w : Int) : Int × Int := if a = 1 ∨ b = 1 then (1, 0) else if a = 0 ∧ b = 0 then finS ((splitN (v.natAbs * w.natAbs) 1000000).1 : Int) (decide (sgnN a v * sgnN b w < 0)) else if sgnN a v * sgnN b w = 0 then (1, 0) else if sgnN a v * sgnN b w < 0 then (3, 0) else (2, 0)
theorem mulN_comm (a v b w : Int) : mulN a v b w = mulN b w a v := by
  unfold mulN
  rw [Nat.mul_comm v.natAbs, Int.mul_comm (sgnN a v)]
  by_cases ha : a = 1
  · simp [ha]
  · by_cases hb : b = 1
    · simp [hb]
    · by_cases a0 : a = 0
      · by_cases b0 : b = 0
        · simp [a0, b0]
        · simp [a0, b0, hb]
      · by_cases b0 : b = 0
        · simp [ha, a0, b0]
        · simp [ha, hb, a0, b0]
theorem split_at (p q d : Nat) (hp : p < 18446744073709551616) (hq : q < 18446744073709551616) (hd : 0 < d) (hd2 : d < 18446744073709551616) : xnum_split.f p q d = some (((splitN (p * 18446744073709551616 + q) d).1 : Int), ((splitN (p * 18446744073709551616 + q) d).2 : Int)) := by
  have hc : 0 ≤ (p : Int) ∧ (p : Int) < 18446744073709551616 ∧ 0 ≤ (q : Int) ∧ (q : Int) < 18446744073709551616 ∧ 0 < (d : Int) ∧ (d : Int) < 18446744073709551616 := by refine ⟨?_, ?_, ?_, ?_, ?_, ?_⟩ <;> omega
  unfold xnum_split.f
  rw [if_pos hc, Int.toNat_natCast, Int.toNat_natCast, Int.toNat_natCast]
theorem splitmul (x y d : Nat) (hx : x < 9223372036854775808) (hy : y < 9223372036854775808) (hd : 0 < d) (hd2 : d < 18446744073709551616) : (bits_Mul64.f x y).bind (fun bt => xnum_split.f bt.1 bt.2 d) = some (((splitN (x * y) d).1 : Int), ((splitN (x * y) d).2 : Int)) := by
  have b : x * y ≤ 9223372036854775807 * 9223372036854775807 := Nat.mul_le_mul (by omega) (by omega)
  have b2 : x * y < 18446744073709551616 * 18446744073709551616 := Nat.lt_of_le_of_lt b (by decide)
  have e := split_at (x * y / 18446744073709551616) (x * y % 18446744073709551616) d (Nat.div_lt_of_lt_mul b2) (Nat.mod_lt _ (by decide)) hd hd2
  have e2 : x * y / 18446744073709551616 * 18446744073709551616 + x * y % 18446744073709551616 = x * y := Nat.div_add_mod' _ _
  rw [e2] at e
  rw [mul64_at x y (by omega) (by omega), obind]
  exact e
theorem mul_f (k : Nat) {a v b w : Int} (hv : -2000000000000000000 ≤ v ∧ v ≤ 2000000000000000000) (hw : -2000000000000000000 ≤ w ∧ w ≤ 2000000000000000000) : xnum_Mul.f (k + 2) a v b w = some (mulN a v b w) := by
  have e : wrap64 (sgnN a v * sgnN b w) = sgnN a v * sgnN b w := by
    rcases sgn_3 a v with h | h | h <;> rcases sgn_3 b w with h2 | h2 | h2 <;> rw [h, h2] <;> exact w64 (by omega) (by omega)
  unfold xnum_Mul.f mulN
  rw [sign_f, sign_f]
  simp only [obind, e, xnum_Mul.j0, xnum_Mul.j1, xnum_nan.f, sign_f, parts_f a v (by omega) (by omega), parts_f b w (by omega) (by omega)]
  have S := splitmul v.natAbs w.natAbs 1000000 (by omega) (by omega) (by decide) (by decide)
  have n6 : ((1000000 : Nat) : Int) = 1000000 := rfl
  rw [n6] at S
  generalize hM : bits_Mul64.f (v.natAbs : Int) (w.natAbs : Int) = M at *
  cases M with
  | none => simp at S
  | some m =>
    simp only [obind] at S ⊢
    rw [S]
    simp only [obind, fin_f _ _ (Int.natCast_nonneg _), xnum_inf.f]
    generalize sgnN a v * sgnN b w = s
    by_cases ha : a = 1
    · simp [ha]
    · by_cases hb : b = 1
      · simp [ha, hb]
      · by_cases s0 : s = 0
        · by_cases a0 : a = 0
          · by_cases b0 : b = 0
            · simp [a0, b0, s0]
            · simp [a0, b0, hb, s0]
          · by_cases b0 : b = 0
            · simp [ha, a0, b0, s0]
            · simp [ha, hb, a0, b0, s0]
        · by_cases s1 : s < 0
          · by_cases a0 : a = 0
            · by_cases b0 : b = 0
              · simp [a0, b0, s1]
              · simp [a0, b0, hb, s0, s1]
            · by_cases b0 : b = 0
              · simp [ha, a0, b0, s0, s1]
              · simp [ha, hb, a0, b0, s0, s1]
          · by_cases a0 : a = 0
            · by_cases b0 : b = 0
              · simp [a0, b0, s1]
              · simp [a0, b0, hb, s0, s1]
            · by_cases b0 : b = 0
              · simp [ha, a0, b0, s0, s1]
              · simp [ha, hb, a0, b0, s0, s1]
end Go.Proofs.YtfbmojnndbbojaaGreatDoor.NumA
