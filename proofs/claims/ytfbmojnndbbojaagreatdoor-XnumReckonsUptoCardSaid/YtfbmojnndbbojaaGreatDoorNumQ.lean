/- The document's digits, without Go and memory. -/
import Derived.Test.YtfbmojnndbbojaaGreatDoorPrintf28
import Derived.Test.YtfbmojnndbbojaaGreatDoorPrintf80
import Derived.Test.YtfbmojnndbbojaaGreatDoorPrintf84
import Derived.Test.YtfbmojnndbbojaaGreatDoorNumB
namespace Go.Proofs.YtfbmojnndbbojaaGreatDoor.NumQ
open Go.RowKit Go.Proofs.YtfbmojnndbbojaaGreatDoorW.PrintWords Go.Proofs.YtfbmojnndbbojaaGreatDoor.Plain Go.Proofs.YtfbmojnndbbojaaGreatDoor.Print Go.Proofs.YtfbmojnndbbojaaGreatDoor.NumO Go.Proofs.YtfbmojnndbbojaaGreatDoor.NumA
/-- what digits are, the lowest first -/
def valL : List Nat → Nat
  | [] => 0
  | d :: l => d + 10 * valL l
abbrev cs (l : List Nat) : List Int := l.map (fun (n : Nat) => (n : Int))
theorem valL_append (l m : List Nat) : valL (l ++ m) = valL l + 10 ^ l.length * valL m := by
  induction l with
  | nil => simp [valL]
  | cons d l ih =>
    simp only [List.cons_append, valL, ih, List.length_cons, Nat.pow_succ]
    rw [Nat.mul_add, ← Nat.mul_assoc, Nat.mul_comm 10 (10 ^ l.length), Nat.add_assoc]
theorem valL_lt {l : List Nat} (h : ∀ d ∈ l, d < 10) : valL l < 10 ^ l.length := by
  induction l with
  | nil => simp [valL]
  | cons d l ih =>
    have h1 := h d (by simp)
    have h2 := ih (fun x hx => h x (by simp [hx]))
    simp only [valL, List.length_cons, Nat.pow_succ]
    omega
theorem valL_cut (l : List Nat) (m : Nat) (h : m ≤ l.length) : valL l = valL (l.take m) + 10 ^ m * valL (l.drop m) := by
  have e := valL_append (l.take m) (l.drop m)
  rw [List.take_append_drop, List.length_take, Nat.min_eq_left h] at e
  exact e
theorem rd_cs (l : List Nat) (i : Nat) (h : i < l.length) : rd (cs l) (i : Int) = (l[i] : Int) := by
  unfold rd cs
  rw [Int.toNat_natCast]
  simp [List.getD_eq_getElem?_getD, h]
theorem drop_step (l : List Nat) (i : Nat) (h : i < l.length) : valL (l.drop i) = l[i] + 10 * valL (l.drop (i + 1)) := by
  rw [List.drop_eq_getElem_cons h]
  rfl
theorem digit_at {l : List Nat} (hd : ∀ d ∈ l, d < 10) (i : Nat) (h : i < l.length) : valL l / 10 ^ i % 10 = l[i] := by
  have e := valL_cut l i (by omega)
  have hlt := valL_lt (l := l.take i) (fun d hx => hd d (List.mem_of_mem_take hx))
  rw [List.length_take, Nat.min_eq_left (by omega)] at hlt
  have hp : 0 < 10 ^ i := Nat.pow_pos (by decide)
  have h1 := hd l[i] (List.getElem_mem h)
  rw [e, Nat.add_mul_div_left _ _ hp, Nat.div_eq_of_lt hlt, Nat.zero_add, drop_step l i h]
  omega
theorem wn {x : Nat} (h : x < 18446744073709551616) : IntKind.u64.wrap (x : Int) = (x : Int) := by rw [wu]; omega
theorem digits_loop : ∀ (m x k : Nat) (acc : List Int), x < 10 ^ m → m < k → acc.length + m < 17592186044416 → x < 18446744073709551616 →
    ∃ l : List Nat, stencilref02_digits.l0 k x acc = some (acc ++ cs l) ∧ valL l = x ∧ (∀ d ∈ l, d < 10) ∧ l.length ≤ m
  | 0, x, k + 1, acc, hx, hk, ha, h64 => by
    obtain rfl : x = 0 := by simpa using hx
    exact ⟨[], by simp [stencilref02_digits.l0], rfl, by simp, by simp⟩
  | m + 1, x, k + 1, acc, hx, hk, ha, h64 => by
    by_cases h0 : x = 0
    · subst h0
      exact ⟨[], by simp [stencilref02_digits.l0], rfl, by simp, by simp⟩
    · have e1 : IntKind.u64.wrap (Int.tdiv (x : Int) 10) = ((x / 10 : Nat) : Int) := by rw [Int.tdiv_eq_ediv_of_nonneg (by omega), wu]; omega
      have e2 : wrap64 (Int.tmod (x : Int) 10) = ((x % 10 : Nat) : Int) := by rw [Int.tmod_eq_emod_of_nonneg (by omega), w64 (by omega) (by omega)]; omega
      obtain ⟨l, h1, h2, h3, h4⟩ := digits_loop m (x / 10) k (acc ++ [((x % 10 : Nat) : Int)]) (by rw [Nat.pow_succ] at hx; omega) (by omega) (by simp; omega) (by omega)
      refine ⟨x % 10 :: l, ?_, ?_, ?_, ?_⟩
      · rw [stencilref02_digits.l0, if_pos (by omega), if_pos (by omega), e1, e2, h1]
        simp
      · simp only [valL, h2]; omega
      · intro d hd
        rcases List.mem_cons.1 hd with rfl | hd
        · exact Nat.mod_lt _ (by decide)
        · exact h3 d hd
      · simp; omega
theorem digits_f {x k : Nat} (hx : x ≤ 9223372036854775808) (hk : 19 < k) : ∃ l : List Nat, stencilref02_digits.f k x = some (cs l) ∧ valL l = x ∧ (∀ d ∈ l, d < 10) ∧ l.length ≤ 19 := by
  obtain ⟨l, h1, h2⟩ := digits_loop 19 x k [] (by omega) hk (by simp) (by omega)
  exact ⟨l, by unfold stencilref02_digits.f; rw [h1]; simp, h2⟩
/-- a number above the greatest one, or what it is -/
def Told (r : Option (Int × Bool)) (v : Nat) : Prop := ∃ X : Nat, r = some ((X : Int), decide (v > 1000000000000000000)) ∧ (v ≤ 1000000000000000000 → X = v)
theorem whole_loop (zs : List Nat) (hz : ∀ d ∈ zs, d < 1000000000000000000) (hs1 : zs.length < 1000) : ∀ (j k n : Nat), 6 + j ≤ zs.length → j < k → n = valL (zs.drop (6 + j)) →
    Told (stencilref02_whole.l0 k (cs zs) 6 n ((6 + j : Nat) - 1 : Int)) (valL (zs.drop 6))
  | 0, k + 1, n, hl, hk, hn => by
    refine ⟨n, ?_, fun _ => hn⟩
    rw [stencilref02_whole.l0, if_neg (by omega), ← hn]
    congr 2
    apply decide_eq_decide.2
    omega
  | j + 1, k + 1, n, hl, hk, hn => by
    have hs := drop_step zs (6 + j) (by omega)
    rw [show 6 + j + 1 = 6 + (j + 1) by omega, ← hn] at hs
    have hge : n ≤ valL (zs.drop 6) := by
      have e := valL_cut (zs.drop 6) (j + 1) (by rw [List.length_drop]; omega)
      rw [List.drop_drop, ← hn] at e
      have h1 : 1 ≤ 10 ^ (j + 1) := Nat.pow_pos (by decide)
      have h2 : 1 * n ≤ 10 ^ (j + 1) * n := Nat.mul_le_mul_right n h1
      omega
    by_cases hg : n > 1000000000000000000
    · refine ⟨0, ?_, ?_⟩
      · rw [stencilref02_whole.l0, if_pos (by omega), if_pos (by omega), decide_eq_true]
        · rfl
        · exact Nat.lt_of_lt_of_le hg hge
      · intro hle
        omega
    · have hd := hz zs[6 + j] (List.getElem_mem (by omega))
      have er : rd (cs zs) (((6 + (j + 1) : Nat) : Int) - 1) = (zs[6 + j] : Int) := by
        rw [show (((6 + (j + 1) : Nat) : Int) - 1) = ((6 + j : Nat) : Int) by omega]
        exact rd_cs zs (6 + j) (by omega)
      have e1 : IntKind.u64.wrap (IntKind.u64.wrap ((n : Int) * 10) + IntKind.u64.wrap (zs[6 + j] : Int)) = ((zs[6 + j] + 10 * n : Nat) : Int) := by
        rw [wu, wu, wu]; omega
      have e2 : wrap64 (((6 + (j + 1) : Nat) : Int) - 1 - 1) = ((6 + j : Nat) : Int) - 1 := by rw [w64 (by omega) (by omega)]; omega
      have ih := whole_loop zs hz hs1 j k (zs[6 + j] + 10 * n) (by omega) (by omega) hs.symm
      rw [stencilref02_whole.l0, if_pos (by omega), if_neg (by omega), if_pos (by omega), if_pos (by simp; omega), er, e1, e2]
      exact ih
theorem whole_f (zs : List Nat) (hz : ∀ d ∈ zs, d < 1000000000000000000) (k : Nat) (hk : zs.length < k) (hl : zs.length < 1000) : Told (stencilref02_whole.f k (cs zs) 6) (valL (zs.drop 6)) := by
  unfold stencilref02_whole.f
  have e : wrap64 (((cs zs).length : Int) - 1) = (zs.length : Int) - 1 := by rw [List.length_map, w64 (by omega) (by omega)]
  rw [e]
  by_cases h : 6 ≤ zs.length
  · have := whole_loop zs hz hl (zs.length - 6) k 0 (by omega) (by omega) (by rw [show 6 + (zs.length - 6) = zs.length by omega, List.drop_length]; rfl)
    rw [show 6 + (zs.length - 6) = zs.length by omega] at this
    exact this
  · obtain ⟨k', rfl⟩ : ∃ k', k = k' + 1 := ⟨k - 1, by omega⟩
    have hd : zs.drop 6 = [] := List.drop_eq_nil_of_le (by omega)
    rw [hd]
    refine ⟨0, ?_, fun _ => rfl⟩
    rw [stencilref02_whole.l0, if_neg (by omega)]
    rfl
theorem valL_set : ∀ (zs : List Nat) (p c : Nat) (h : p < zs.length), valL (zs.set p (zs[p] + c)) = valL zs + 10 ^ p * c
  | d :: l, 0, c, h => by simp [valL]; omega
  | d :: l, p + 1, c, h => by
    have ih := valL_set l p c (by simpa using h)
    simp only [List.set_cons_succ, List.getElem_cons_succ, valL, ih, Nat.pow_succ]
    rw [Nat.mul_add, ← Nat.mul_assoc, Nat.mul_comm 10 (10 ^ p), Nat.add_assoc]
theorem set_le {zs : List Nat} {B : Nat} (h : ∀ d ∈ zs, d ≤ B) (p v : Nat) (hv : v ≤ B) : ∀ d ∈ zs.set p v, d ≤ B := by
  intro d hd
  rcases List.mem_or_eq_of_mem_set hd with h1 | rfl
  · exact h d h1
  · exact hv
theorem cs_set (zs : List Nat) (p v : Nat) : (cs zs).set p (v : Int) = cs (zs.set p v) := by
  unfold cs
  rw [List.map_set]
theorem arith1 (v p x y q : Nat) : v + p * (x * y) + p * 10 * (x * q) = v + p * (x * (y + 10 * q)) := by
  rw [Nat.mul_add x, Nat.mul_add p, Nat.mul_left_comm x 10 q, Nat.mul_assoc p 10, Nat.add_assoc]
theorem arith2 (v p x y q : Nat) : v + p * (x * y) + p * 10 * (q * y) = v + p * ((x + 10 * q) * y) := by
  rw [Nat.add_mul x, Nat.mul_add p, Nat.mul_assoc 10 q, Nat.mul_assoc p 10, Nat.add_assoc]
theorem mul_l1 (s : Bool) (xs ys : List Nat) (hx : ∀ d ∈ xs, d < 10) (hy : ∀ d ∈ ys, d < 10) (hlx : xs.length ≤ 19) (hly : ys.length ≤ 19) (i : Nat) (hi : i < xs.length) : ∀ (t j k B : Nat) (zs : List Nat), j + t = ys.length → zs.length = xs.length + ys.length + 1 → (∀ d ∈ zs, d ≤ B) → B + 81 * t ≤ 100000 →
    ∃ zs' : List Nat, stencilref02_Mul.l1 (k + t + 1) s (cs xs) (cs ys) (cs zs) i j = stencilref02_Mul.l0 k s (cs xs) (cs ys) (cs zs') ((i + 1 : Nat) : Int) ∧ zs'.length = zs.length ∧ (∀ d ∈ zs', d ≤ B + 81 * t) ∧ valL zs' = valL zs + 10 ^ (i + j) * (xs[i] * valL (ys.drop j))
  | 0, j, k, B, zs, hj, hz, hB, hB2 => by
    refine ⟨zs, ?_, rfl, by simpa using hB, ?_⟩
    · rw [stencilref02_Mul.l1, if_neg (by simp; omega), w64 (by omega) (by omega)]
      rfl
    · rw [List.drop_eq_nil_of_le (by omega)]
      simp [valL]
  | t + 1, j, k, B, zs, hj, hz, hB, hB2 => by
    have hp : i + j < zs.length := by omega
    have c1 : (j : Int) < ((cs ys).length : Int) := by rw [List.length_map]; omega
    have c2 : (0 : Int) ≤ ((i + j : Nat) : Int) := Int.natCast_nonneg _
    have c3 : ((i + j : Nat) : Int) < ((cs zs).length : Int) := by rw [List.length_map]; omega
    have c4 : (i : Int) < ((cs xs).length : Int) := by rw [List.length_map]; omega
    have c9 : j < ys.length := by omega
    have c5 : j + 1 + t = ys.length := by omega
    have c6 : B + 81 + 81 * t ≤ 100000 := by omega
    have d1 := hx xs[i] (List.getElem_mem hi)
    have d2 := hy ys[j] (List.getElem_mem (by omega))
    have d3 := hB zs[i + j] (List.getElem_mem hp)
    have pr : xs[i] * ys[j] ≤ 9 * 9 := Nat.mul_le_mul (by omega) (by omega)
    have c7 : zs[i + j] + xs[i] * ys[j] ≤ B + 81 := by omega
    have c8 : ∀ d ∈ zs, d ≤ B + 81 := fun d hd => by have := hB d hd; omega
    have e1 : wrap64 ((i : Int) + (j : Int)) = ((i + j : Nat) : Int) := by rw [w64 (by omega) (by omega)]; omega
    have e2 : wrap64 (rd (cs zs) ((i + j : Nat) : Int) + wrap64 (rd (cs xs) (i : Int) * rd (cs ys) (j : Int))) = ((zs[i + j] + xs[i] * ys[j] : Nat) : Int) := by
      rw [rd_cs zs (i + j) hp, rd_cs xs i hi, rd_cs ys j c9, ← Int.natCast_mul]
      generalize xs[i] * ys[j] = q at *
      rw [w64 (x := (q : Int)) (by omega) (by omega), w64 (by omega) (by omega)]
      omega
    have e3 : wrap64 ((j : Int) + 1) = ((j + 1 : Nat) : Int) := by rw [w64 (by omega) (by omega)]; omega
    obtain ⟨zs', h1, h2, h3, h4⟩ := mul_l1 s xs ys hx hy hlx hly i hi t (j + 1) k (B + 81) (zs.set (i + j) (zs[i + j] + xs[i] * ys[j])) c5 (by rw [List.length_set]; exact hz) (set_le c8 _ _ c7) c6
    refine ⟨zs', ?_, by rw [h2, List.length_set], fun d hd => by have h9 := h3 d hd; clear h1 h2 h3 h4 e1 e2 e3; omega, ?_⟩
    · rw [show k + (t + 1) + 1 = (k + t + 1) + 1 from rfl, stencilref02_Mul.l1, if_pos c1, e1, if_pos c2, if_pos c3, if_pos (Int.natCast_nonneg i), if_pos c4, if_pos (Int.natCast_nonneg j), e2, e3, Int.toNat_natCast, cs_set]
      exact h1
    · rw [h4, valL_set zs (i + j) _ hp, drop_step ys j c9, show i + (j + 1) = (i + j) + 1 from rfl, Nat.pow_succ]
      exact arith1 _ _ _ _ _
theorem mul_l0 (s : Bool) (xs ys : List Nat) (hx : ∀ d ∈ xs, d < 10) (hy : ∀ d ∈ ys, d < 10) (hlx : xs.length ≤ 19) (hly : ys.length ≤ 19) : ∀ (t i k B : Nat) (zs : List Nat), i + t = xs.length → zs.length = xs.length + ys.length + 1 → (∀ d ∈ zs, d ≤ B) → B + 1539 * t ≤ 100000 →
    ∃ zs' : List Nat, stencilref02_Mul.l0 (k + t * (ys.length + 2) + 1) s (cs xs) (cs ys) (cs zs) i = stencilref02_Mul.l2 k s (cs zs') 0 ∧ zs'.length = zs.length ∧ (∀ d ∈ zs', d ≤ B + 1539 * t) ∧ valL zs' = valL zs + 10 ^ i * (valL (xs.drop i) * valL ys)
  | 0, i, k, B, zs, hi, hz, hB, hB2 => by
    refine ⟨zs, ?_, rfl, by simpa using hB, ?_⟩
    · rw [Nat.zero_mul, Nat.add_zero, stencilref02_Mul.l0, if_neg (by simp; omega)]
    · rw [List.drop_eq_nil_of_le (by omega)]
      simp [valL]
  | t + 1, i, k, B, zs, hi, hz, hB, hB2 => by
    obtain ⟨z1, h1, h2, h3, h4⟩ := mul_l1 s xs ys hx hy hlx hly i (by omega) ys.length 0 (k + t * (ys.length + 2) + 1) B zs (by omega) hz hB (by omega)
    obtain ⟨z2, g1, g2, g3, g4⟩ := mul_l0 s xs ys hx hy hlx hly t (i + 1) k (B + 1539) z1 (by omega) (by rw [h2]; exact hz) (fun d hd => by have := h3 d hd; omega) (by omega)
    refine ⟨z2, ?_, by rw [g2, h2], fun d hd => by have := g3 d hd; omega, ?_⟩
    · rw [show k + (t + 1) * (ys.length + 2) + 1 = (k + t * (ys.length + 2) + 1 + ys.length + 1) + 1 by rw [Nat.succ_mul]; omega, stencilref02_Mul.l0, if_pos (by simp; omega)]
      rw [show ((0 : Int)) = ((0 : Nat) : Int) from rfl] at *
      rw [h1]
      exact g1
    · rw [g4, h4, Nat.add_zero, List.drop_zero, drop_step xs i (by omega), Nat.pow_succ]
      exact arith2 _ _ _ _ _
theorem mul_l2 (s : Bool) : ∀ (t i k : Nat) (zs : List Nat), i + 1 + t = zs.length → zs.length ≤ 100 → (∀ p (h : p < zs.length), i < p → zs[p] ≤ 100000) → (∀ (h : i < zs.length), zs[i] ≤ 200000) → (∀ p (h : p < zs.length), p < i → zs[p] < 10) →
    ∃ zs' : List Nat, stencilref02_Mul.l2 (k + t + 1) s (cs zs) i = ((stencilref02_whole.f k (cs zs') 6).bind fun bt => (stencilref02_made.f k bt.1 s bt.2).bind fun b2 => some (b2.1, b2.2)) ∧ zs'.length = zs.length ∧ valL zs' = valL zs ∧ (∀ p (h : p < zs'.length), p + 1 < zs'.length → zs'[p] < 10) ∧ (∀ d ∈ zs', d ≤ 200000)
  | 0, i, k, zs, hi, hl, hA, hB, hC => by
    refine ⟨zs, ?_, rfl, rfl, fun p h h2 => hC p h (by omega), ?_⟩
    · rw [Nat.add_zero, stencilref02_Mul.l2, w64 (by omega) (by omega), if_neg (by simp; omega)]
    · intro d hd
      obtain ⟨p, hp, rfl⟩ := List.getElem_of_mem hd
      by_cases h1 : p < i
      · have := hC p hp h1; omega
      · by_cases h2 : p = i
        · subst h2; exact hB hp
        · have := hA p hp (by omega); omega
  | t + 1, i, k, zs, hi, hl, hA, hB, hC => by
    have h0 : i < zs.length := by omega
    have h1 : i + 1 < zs.length := by omega
    have b0 := hB h0
    have b1 := hA (i + 1) h1 (by omega)
    have e1 : wrap64 ((i : Int) + 1) = ((i + 1 : Nat) : Int) := by rw [w64 (by omega) (by omega)]; omega
    have e2 : wrap64 (rd (cs zs) ((i + 1 : Nat) : Int) + wrap64 (Int.tdiv (rd (cs zs) (i : Int)) 10)) = ((zs[i + 1] + zs[i] / 10 : Nat) : Int) := by
      rw [rd_cs zs (i + 1) h1, rd_cs zs i h0, Int.tdiv_eq_ediv_of_nonneg (by omega), w64 (x := (zs[i] : Int) / 10) (by omega) (by omega), w64 (by omega) (by omega)]
      omega
    have h0' : i < (zs.set (i + 1) (zs[i + 1] + zs[i] / 10)).length := by rw [List.length_set]; exact h0
    have gi : (zs.set (i + 1) (zs[i + 1] + zs[i] / 10))[i] = zs[i] := by rw [List.getElem_set_ne (by omega)]
    have e3 : Int.tmod (rd (cs (zs.set (i + 1) (zs[i + 1] + zs[i] / 10))) (i : Int)) 10 = ((zs[i] % 10 : Nat) : Int) := by
      rw [rd_cs _ i h0', gi, Int.tmod_eq_emod_of_nonneg (by omega)]
      omega
    have hv : valL ((zs.set (i + 1) (zs[i + 1] + zs[i] / 10)).set i (zs[i] % 10)) = valL zs := by
      have v1 := valL_set zs (i + 1) (zs[i] / 10) h1
      have v2 := valL_set ((zs.set (i + 1) (zs[i + 1] + zs[i] / 10)).set i (zs[i] % 10)) i (zs[i] / 10 * 10) (by simpa using h0)
      have q1 : ((zs.set (i + 1) (zs[i + 1] + zs[i] / 10)).set i (zs[i] % 10))[i]'(by simpa using h0) = zs[i] % 10 := by rw [List.getElem_set_self]
      rw [q1, List.set_set, show zs[i] % 10 + zs[i] / 10 * 10 = zs[i] by omega] at v2
      have q2 : (zs.set (i + 1) (zs[i + 1] + zs[i] / 10)).set i zs[i] = zs.set (i + 1) (zs[i + 1] + zs[i] / 10) := by
        have q3 := List.set_getElem_self h0'
        rw [gi] at q3
        exact q3
      rw [q2, v1, Nat.pow_succ, Nat.mul_assoc, Nat.mul_comm 10 (zs[i] / 10)] at v2
      omega
    obtain ⟨z2, g1, g2, g3, g4, g5⟩ := mul_l2 s t (i + 1) k ((zs.set (i + 1) (zs[i + 1] + zs[i] / 10)).set i (zs[i] % 10)) (by simp; omega) (by simpa using hl) (by
        intro p h hp
        rw [List.getElem_set_ne (by omega), List.getElem_set_ne (by omega)]
        exact hA p (by simpa using h) (by omega)) (by
        intro h
        rw [List.getElem_set_ne (by omega), List.getElem_set_self]
        omega) (by
        intro p h hp
        by_cases hq : p = i
        · subst hq
          rw [List.getElem_set_self]
          exact Nat.mod_lt _ (by decide)
        · rw [List.getElem_set_ne (by omega), List.getElem_set_ne (by omega)]
          exact hC p (by simpa using h) (by omega))
    refine ⟨z2, ?_, by rw [g2]; simp, by rw [g3, hv], g4, g5⟩
    rw [show k + (t + 1) + 1 = (k + t + 1) + 1 by omega, stencilref02_Mul.l2, e1, if_pos (by simp; omega), if_pos (by omega), if_pos (by omega), if_pos (by simp; omega), e2, Int.toNat_natCast, cs_set, Option.bind_some, e3, Int.toNat_natCast, cs_set]
    exact g1
theorem qstep {b P P' d : Nat} (hb : 0 < b) (h : P' = 10 * P + d) : P' / b = 10 * (P / b) + (10 * (P % b) + d) / b ∧ P' % b = (10 * (P % b) + d) % b := by
  have e := Nat.div_add_mod P b
  have e2 : P' = b * (10 * (P / b)) + (10 * (P % b) + d) := by
    rw [h, Nat.mul_left_comm]
    omega
  rw [e2, Nat.mul_add_div hb, Nat.mul_add_mod]
  exact ⟨rfl, rfl⟩
theorem quot_loop (l : List Nat) (hd : ∀ d ∈ l, d < 10) (hl : l.length ≤ 19) (b : Nat) (hb : 0 < b) (hb2 : b ≤ 1000000000000000000) : ∀ (t k n rest : Nat), t ≤ l.length + 6 → t < k → n = valL l * 1000000 / 10 ^ t / b → rest = valL l * 1000000 / 10 ^ t % b →
    Told (stencilref02_quotient.l0 k b 6 (cs l) rest n ((t : Int) - 7)) (valL l * 1000000 / b)
  | 0, k + 1, n, rest, ht, hk, hn, hr => by
    rw [Nat.pow_zero, Nat.div_one] at hn
    refine ⟨n, ?_, fun _ => hn⟩
    have e6 : wrap64 (-6) = -6 := w64 (by omega) (by omega)
    have c0 : ¬ (((0 : Nat) : Int) - 7 ≥ -6) := by omega
    rw [stencilref02_quotient.l0, e6, if_neg c0, ← hn]
    congr 2
    apply decide_eq_decide.2
    omega
  | t + 1, k + 1, n, rest, ht, hk, hn, hr => by
    have hrl : rest < b := by rw [hr]; exact Nat.mod_lt _ hb
    have hge : n ≤ valL l * 1000000 / b := by rw [hn]; exact Nat.div_le_div_right (Nat.div_le_self _ _)
    have hP : valL l * 1000000 / 10 ^ t = 10 * (valL l * 1000000 / 10 ^ (t + 1)) + valL l * 1000000 / 10 ^ t % 10 := by
      rw [Nat.pow_succ, ← Nat.div_div_eq_div_mul]
      omega
    have hdl : valL l * 1000000 / 10 ^ t % 10 < 10 := Nat.mod_lt _ (by decide)
    obtain ⟨q1, q2⟩ := qstep hb hP
    rw [← hn, ← hr] at q1
    rw [← hr] at q2
    have c1 : ((t + 1 : Nat) : Int) - 7 ≥ -6 := by omega
    have c2 : (b : Int) ≠ 0 := by omega
    have c3 : ((t + 1 : Nat) : Int) - 7 - 1 = (t : Int) - 7 := by omega
    have b3 : -9223372036854775808 ≤ ((t + 1 : Nat) : Int) - 7 - 1 ∧ ((t + 1 : Nat) : Int) - 7 - 1 < 9223372036854775808 := by omega
    have hq9 : (10 * rest + valL l * 1000000 / 10 ^ t % 10) / b < 10 := by
      rw [Nat.div_lt_iff_lt_mul hb]
      omega
    have ih := quot_loop l hd hl b hb hb2 t k (10 * n + (10 * rest + valL l * 1000000 / 10 ^ t % 10) / b) ((10 * rest + valL l * 1000000 / 10 ^ t % 10) % b) (by omega) (by omega) q1.symm q2.symm
    have hi0 : 6 ≤ t → ∃ h : t - 6 < l.length, l[t - 6] = valL l * 1000000 / 10 ^ t % 10 := by
      intro h6
      have h7 : t - 6 < l.length := by omega
      refine ⟨h7, ?_⟩
      rw [← digit_at hd (t - 6) h7]
      congr 1
      have e10 : (10 : Nat) ^ t = 10 ^ (t - 6) * 1000000 := by
        rw [show (1000000 : Nat) = 10 ^ 6 from rfl, ← Nat.pow_add]
        congr 1
        omega
      rw [e10, Nat.mul_div_mul_right _ _ (by decide)]
    have hi1 : t < 6 → valL l * 1000000 / 10 ^ t % 10 = 0 := by
      intro h6
      have e10 : valL l * 1000000 = (valL l * 10 ^ (5 - t) * 10) * 10 ^ t := by
        rw [Nat.mul_assoc, Nat.mul_assoc, Nat.mul_comm 10, ← Nat.pow_succ, ← Nat.pow_add, show 5 - t + (t + 1) = 6 by omega]
      rw [e10, Nat.mul_div_cancel _ (Nat.pow_pos (by decide))]
      exact Nat.mul_mod_left _ _
    generalize hD : valL l * 1000000 / 10 ^ t % 10 = d at *
    have bn : n ≤ 1000000000000000000 → n * 10 + 10 < 18446744073709551616 := by omega
    have br : rest * 10 + 10 < 18446744073709551616 := by omega
    clear hn hr hP q1 q2 hD
    have x1 : IntKind.u64.wrap (IntKind.u64.wrap ((rest : Int) * 10) + IntKind.u64.wrap (d : Int)) = ((10 * rest + d : Nat) : Int) := by rw [wu, wu, wu]; omega
    have x2 : d = 0 → IntKind.u64.wrap (IntKind.u64.wrap ((rest : Int) * 10) + 0) = ((10 * rest + d : Nat) : Int) := by intro h; rw [wu, wu]; omega
    have x3 : Int.tmod ((10 * rest + d : Nat) : Int) (b : Int) = (((10 * rest + d) % b : Nat) : Int) := by rw [Int.tmod_eq_emod_of_nonneg (Int.natCast_nonneg _), Int.natCast_emod]
    have x4 : Int.tdiv ((10 * rest + d : Nat) : Int) (b : Int) = (((10 * rest + d) / b : Nat) : Int) := by rw [Int.tdiv_eq_ediv_of_nonneg (Int.natCast_nonneg _), Int.natCast_ediv]
    have x5 : n ≤ 1000000000000000000 → IntKind.u64.wrap (IntKind.u64.wrap ((n : Int) * 10) + IntKind.u64.wrap (((10 * rest + d) / b : Nat) : Int)) = ((10 * n + (10 * rest + d) / b : Nat) : Int) := by
      intro h
      generalize (10 * rest + d) / b = q at *
      rw [wu, wu, wu]
      omega
    have e6 : wrap64 (-6) = -6 := w64 (by omega) (by omega)
    have e7 : wrap64 (((t + 1 : Nat) : Int) - 7 - 1) = (t : Int) - 7 := by rw [w64 b3.1 b3.2, c3]
    by_cases h6 : 6 ≤ t
    · obtain ⟨h7, h8⟩ := hi0 h6
      have c4 : ((t + 1 : Nat) : Int) - 7 ≥ 0 := by clear ih x1 x2 x3 x4 x5 e6 e7; omega
      have c5 : (0 : Int) ≤ ((t + 1 : Nat) : Int) - 7 := by clear ih x1 x2 x3 x4 x5 e6 e7; omega
      have c6 : ((t + 1 : Nat) : Int) - 7 < ((cs l).length : Int) := by rw [List.length_map]; clear ih x1 x2 x3 x4 x5 e6 e7; omega
      have er : rd (cs l) (((t + 1 : Nat) : Int) - 7) = (d : Int) := by
        rw [show ((t + 1 : Nat) : Int) - 7 = ((t - 6 : Nat) : Int) by clear ih x1 x2 x3 x4 x5 e6 e7; omega, rd_cs l (t - 6) h7, h8]
      by_cases hg : n > 1000000000000000000
      · have hg2 : (n : Int) > 1000000000000000000 := by clear ih x1 x2 x3 x4 x5 e6 e7; omega
        refine ⟨0, ?_, fun h => ?_⟩
        · rw [stencilref02_quotient.l0, e6, if_pos c1, if_pos c4, if_pos c5, if_pos c6, if_pos hg2, decide_eq_true (Nat.lt_of_lt_of_le hg hge)]
          rfl
        · clear ih x1 x2 x3 x4 x5 e6 e7; omega
      · have hg2 : ¬ ((n : Int) > 1000000000000000000) := by clear ih x1 x2 x3 x4 x5 e6 e7; omega
        rw [stencilref02_quotient.l0, e6, if_pos c1, if_pos c4, if_pos c5, if_pos c6, if_neg hg2, if_neg c2, er, x1, x3, x4, x5 (by clear ih x1 x2 x3 x4 x5 e6 e7; omega), e7]
        exact ih
    · have c4 : ¬ (((t + 1 : Nat) : Int) - 7 ≥ 0) := by clear ih x1 x2 x3 x4 x5 e6 e7; omega
      have d0 := hi1 (by clear ih x1 x2 x3 x4 x5 e6 e7; omega)
      by_cases hg : n > 1000000000000000000
      · have hg2 : (n : Int) > 1000000000000000000 := by clear ih x1 x2 x3 x4 x5 e6 e7; omega
        refine ⟨0, ?_, fun h => ?_⟩
        · rw [stencilref02_quotient.l0, e6, if_pos c1, if_neg c4, if_pos hg2, decide_eq_true (Nat.lt_of_lt_of_le hg hge)]
          rfl
        · clear ih x1 x2 x3 x4 x5 e6 e7; omega
      · have hg2 : ¬ ((n : Int) > 1000000000000000000) := by clear ih x1 x2 x3 x4 x5 e6 e7; omega
        rw [stencilref02_quotient.l0, e6, if_pos c1, if_neg c4, if_neg hg2, if_neg c2, x2 d0, x3, x4, x5 (by clear ih x1 x2 x3 x4 x5 e6 e7; omega), e7]
        exact ih
theorem quot_f {a b k : Nat} (ha : a ≤ 1000000000000000000) (hb : 0 < b) (hb2 : b ≤ 1000000000000000000) (hk : 40 < k) : Told (stencilref02_quotient.f k a b 6) (a * 1000000 / b) := by
  obtain ⟨l, h1, h2, h3, h4⟩ := digits_f (x := a) (k := k) (by omega) (by omega)
  have ih := quot_loop l h3 h4 b hb hb2 (l.length + 6) k 0 0 (by omega) (by omega)
  have hz : valL l * 1000000 / 10 ^ (l.length + 6) = 0 := by
    have := valL_lt h3
    rw [Nat.pow_add, show (10 : Nat) ^ 6 = 1000000 from rfl, Nat.mul_div_mul_right _ _ (by decide)]
    exact Nat.div_eq_of_lt this
  rw [hz, Nat.zero_div, Nat.zero_mod] at ih
  have ih2 := ih rfl rfl
  unfold stencilref02_quotient.f
  rw [h1, Option.bind_some]
  have c3 : ((l.length + 6 : Nat) : Int) - 7 = (l.length : Int) - 1 := by omega
  have e : wrap64 (((cs l).length : Int) - 1) = (l.length : Int) - 1 := by rw [List.length_map, w64 (by omega) (by omega)]
  rw [c3, h2] at ih2
  rw [e]
  exact ih2
end Go.Proofs.YtfbmojnndbbojaaGreatDoor.NumQ
