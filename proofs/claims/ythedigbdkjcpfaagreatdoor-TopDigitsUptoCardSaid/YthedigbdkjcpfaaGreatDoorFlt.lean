import GoSem.Core.Float
namespace Go.Proofs.YthedigbdkjcpfaaGreatDoor.Flt
open Ieee

theorem cut_zero (neg : Bool) (n : Nat) : Toward.even.cut neg n 0 = n := by
  unfold Toward.cut
  simp [Nat.mod_one]

/-- the word of a whole number below 2^53: what it reads as -/
theorem read_nearest (neg : Bool) (m : Nat) (h0 : m ≠ 0) (h : m < 2 ^ 53) :
    Ieee.double.read (Ieee.double.nearest neg m 0) = .number neg (m <<< (52 - m.log2)) ((m.log2 : Int) - 52) := by
  have hl : m.log2 ≤ 52 := by
    have := (Nat.log2_lt h0).2 h
    omega
  have hp1 : 2 ^ m.log2 ≤ m := Nat.log2_self_le h0
  have hp2 : m < 2 ^ (m.log2 + 1) := Nat.lt_log2_self
  generalize hL : m.log2 = L at *
  have hk1 : 2 ^ 52 ≤ m <<< (52 - L) := by
    rw [Nat.shiftLeft_eq]
    calc 2 ^ 52 = 2 ^ L * 2 ^ (52 - L) := by rw [← Nat.pow_add]; congr 1; omega
      _ ≤ m * 2 ^ (52 - L) := Nat.mul_le_mul_right _ hp1
  have hk2 : m <<< (52 - L) < 2 ^ 53 := by
    rw [Nat.shiftLeft_eq]
    calc m * 2 ^ (52 - L) < 2 ^ (L + 1) * 2 ^ (52 - L) := Nat.mul_lt_mul_of_pos_right hp2 (Nat.pow_pos (by omega))
      _ = 2 ^ 53 := by rw [← Nat.pow_add]; congr 1; omega
  have hn : Ieee.double.nearest neg m 0 = Ieee.double.word neg ((L + 1022) * 2 ^ 52 + m <<< (52 - L)) := by
    unfold Format.nearest
    rw [if_neg h0]
    have e1 : Ieee.double.leastPlace = -1074 := by decide
    have e2 : (Ieee.double.fractionBits : Int) = 52 := rfl
    have e3 : Ieee.double.binade = 2 ^ 52 := rfl
    have e4 : Ieee.double.infRung = 2047 * 2 ^ 52 := rfl
    simp only [e1, e2, e3, e4, hL]
    have e5 : max ((0 : Int) + (L : Int) - 52) (-1074) = (L : Int) - 52 := by omega
    rw [e5]
    have e6 : ((L : Int) - 52 - 0).toNat = 0 := by omega
    have e7 : ((0 : Int) - ((L : Int) - 52)).toNat = 52 - L := by omega
    have e8 : ((L : Int) - 52 - -1074).toNat = L + 1022 := by omega
    rw [e6, e7, e8, cut_zero]
    generalize m <<< (52 - L) = K at *
    rw [Nat.min_eq_left (by omega)]
  rw [hn]
  generalize m <<< (52 - L) = K at *
  unfold Format.read
  have e1 : Ieee.double.leastPlace = -1074 := by decide
  have e3 : Ieee.double.binade = 2 ^ 52 := rfl
  have e4 : Ieee.double.infRung = 2047 * 2 ^ 52 := rfl
  have e9 : Ieee.double.signWeight = 2 ^ 63 := rfl
  simp only [e1, e3, e4, e9, Format.word]
  have hr : (L + 1022) * 2 ^ 52 + K < 2 ^ 63 := by omega
  have hm : (if neg = true then 2 ^ 63 + ((L + 1022) * 2 ^ 52 + K) else (L + 1022) * 2 ^ 52 + K) % 2 ^ 63 = (L + 1022) * 2 ^ 52 + K := by
    cases neg
    · simp; omega
    · simp; omega
  have hd : ((if neg = true then 2 ^ 63 + ((L + 1022) * 2 ^ 52 + K) else (L + 1022) * 2 ^ 52 + K) / 2 ^ 63 % 2 == 1) = neg := by
    cases neg
    · have : ((L + 1022) * 2 ^ 52 + K) / 2 ^ 63 = 0 := Nat.div_eq_of_lt hr
      simp only [Bool.false_eq_true, if_false, this]; rfl
    · have : (2 ^ 63 + ((L + 1022) * 2 ^ 52 + K)) / 2 ^ 63 = 1 := by omega
      simp only [if_true, this]; rfl
  rw [hm, hd]
  rw [if_neg (by omega), if_pos (by omega)]
  have g1 : ((L + 1022) * 2 ^ 52 + K) % 2 ^ 52 = K - 2 ^ 52 := by omega
  have g2 : ((L + 1022) * 2 ^ 52 + K) / 2 ^ 52 = L + 1023 := by omega
  rw [g1, g2]
  have g3 : 2 ^ 52 + (K - 2 ^ 52) = K := by omega
  have g4 : (-1074 : Int) + ((L + 1023 - 1 : Nat) : Int) = (L : Int) - 52 := by omega
  rw [g3, g4]

/-- whole numbers' floats stand to each other as the numbers do -/
theorem order_nearest (a b : Int) (ha : a.natAbs < 2 ^ 53) (hb : b.natAbs < 2 ^ 53) :
    FloatKind.f64.format.order (FloatKind.f64.nearest a) (FloatKind.f64.nearest b) = some (compare a b) := by
  have rd : ∀ n : Int, n.natAbs < 2 ^ 53 → ∃ m : Nat, ∃ e : Int, ∃ s : Bool, e ≤ 0 ∧ Ieee.double.read (FloatKind.f64.nearest n) = .number s m e ∧ (if s then -(m : Int) else m) = n * 2 ^ (-e).toNat := by
    intro n hn
    have hw : FloatKind.f64.nearest n = Ieee.double.nearest (decide (n < 0)) n.natAbs 0 := rfl
    by_cases h0 : n.natAbs = 0
    · have : n = 0 := by omega
      subst this
      refine ⟨0, -1074, false, by omega, by decide, ?_⟩
      rw [Int.zero_mul]; rfl
    · rw [hw, read_nearest _ _ h0 hn]
      have hl : n.natAbs.log2 ≤ 52 := by
        have := (Nat.log2_lt h0).2 hn
        omega
      refine ⟨_, _, _, by omega, rfl, ?_⟩
      have e1 : (-((n.natAbs.log2 : Int) - 52)).toNat = 52 - n.natAbs.log2 := by omega
      rw [e1, Nat.shiftLeft_eq]
      generalize 52 - n.natAbs.log2 = j
      by_cases hneg : n < 0
      · simp only [hneg, decide_true, if_true]
        have : (n.natAbs : Int) = -n := by omega
        rw [Int.natCast_mul, this]
        simp [Int.neg_mul]
      · simp only [hneg, decide_false, Bool.false_eq_true, if_false]
        have : (n.natAbs : Int) = n := by omega
        rw [Int.natCast_mul, this]
        simp
  obtain ⟨m1, e1, s1, h1, r1, v1⟩ := rd a ha
  obtain ⟨m2, e2, s2, h2, r2, v2⟩ := rd b hb
  show (Ieee.double.read _).order (Ieee.double.read _) = _
  rw [r1, r2]
  simp only [Datum.order]
  have sg : ∀ (s : Bool) (m up : Nat), signed s m up = (if s then -(m : Int) else m) * 2 ^ up := by
    intro s m up
    unfold signed
    rw [Nat.shiftLeft_eq]
    cases s <;> simp [Int.natCast_mul, Int.neg_mul]
  rw [sg, sg, v1, v2]
  have p1 : a * 2 ^ (-e1).toNat * 2 ^ (e1 - min e1 e2).toNat = a * 2 ^ (-(min e1 e2)).toNat := by
    rw [Int.mul_assoc, ← Int.pow_add, show (-e1).toNat + (e1 - min e1 e2).toNat = (-(min e1 e2)).toNat from by omega]
  have p2 : b * 2 ^ (-e2).toNat * 2 ^ (e2 - min e1 e2).toNat = b * 2 ^ (-(min e1 e2)).toNat := by
    rw [Int.mul_assoc, ← Int.pow_add, show (-e2).toNat + (e2 - min e1 e2).toNat = (-(min e1 e2)).toNat from by omega]
  rw [p1, p2]
  congr 1
  have hp : (0 : Int) < 2 ^ (-(min e1 e2)).toNat := Int.pow_pos (by omega)
  generalize (2 : Int) ^ (-(min e1 e2)).toNat = c at hp
  unfold compare instOrdInt compareOfLessAndEq
  simp only
  by_cases hlt : a < b
  · rw [if_pos hlt, if_pos (Int.mul_lt_mul_of_pos_right hlt hp)]
  · rw [if_neg hlt]
    by_cases heq : a = b
    · subst heq
      simp
    · have hgt : b < a := by omega
      have := Int.mul_lt_mul_of_pos_right hgt hp
      rw [if_neg (by omega), if_neg (by omega), if_neg heq]

theorem ord_cases (a b : Int) : (a < b ∧ compare a b = .lt) ∨ (a = b ∧ compare a b = .eq) ∨ (b < a ∧ compare a b = .gt) := by
  unfold compare instOrdInt compareOfLessAndEq
  simp only
  by_cases hlt : a < b
  · exact .inl ⟨hlt, by rw [if_pos hlt]⟩
  · by_cases heq : a = b
    · exact .inr (.inl ⟨heq, by rw [if_neg hlt, if_pos heq]⟩)
    · exact .inr (.inr ⟨by omega, by rw [if_neg hlt, if_neg heq]⟩)

theorem geq_nearest (a b : Int) (ha : a.natAbs < 2 ^ 53) (hb : b.natAbs < 2 ^ 53) :
    (FloatKind.f64.format.order (FloatKind.f64.nearest a) (FloatKind.f64.nearest b) == some .gt || FloatKind.f64.format.order (FloatKind.f64.nearest a) (FloatKind.f64.nearest b) == some .eq) = decide (b ≤ a) := by
  rw [order_nearest a b ha hb]
  unfold compare instOrdInt compareOfLessAndEq
  simp only
  by_cases hlt : a < b
  · rw [if_pos hlt]; simp [show ¬ b ≤ a by omega]
  · rw [if_neg hlt]
    by_cases heq : a = b
    · rw [if_pos heq]; simp [show b ≤ a by omega]
    · rw [if_neg heq]; simp [show b ≤ a by omega]
theorem leq_nearest (a b : Int) (ha : a.natAbs < 2 ^ 53) (hb : b.natAbs < 2 ^ 53) :
    (FloatKind.f64.format.order (FloatKind.f64.nearest a) (FloatKind.f64.nearest b) == some .lt || FloatKind.f64.format.order (FloatKind.f64.nearest a) (FloatKind.f64.nearest b) == some .eq) = decide (a ≤ b) := by
  rw [order_nearest a b ha hb]
  unfold compare instOrdInt compareOfLessAndEq
  simp only
  by_cases hlt : a < b
  · rw [if_pos hlt]; simp [show a ≤ b by omega]
  · rw [if_neg hlt]
    by_cases heq : a = b
    · rw [if_pos heq]; simp [show a ≤ b by omega]
    · rw [if_neg heq]; simp [show ¬ a ≤ b by omega]
end Go.Proofs.YthedigbdkjcpfaaGreatDoor.Flt
