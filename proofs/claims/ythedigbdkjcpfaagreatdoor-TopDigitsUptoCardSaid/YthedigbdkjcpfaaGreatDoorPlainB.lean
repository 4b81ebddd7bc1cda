/- Plain Lean: runes, names, colons. -/
import Derived.Test.YthedigbdkjcpfaaGreatDoorPlain
import Derived.Lib.IndexMore
import Derived.Lib.IndexLaws
namespace Go.Proofs.YthedigbdkjcpfaaGreatDoor.Plain
open Go.Lib

/-- A rune is one byte, or all its bytes are beyond ASCII; one byte below 128 is its own rune. -/
theorem decode_bytes (l : List UInt8) (hne : l ≠ []) : ∃ R N, decodeL l = (R, N) ∧ 1 ≤ N ∧ N ≤ l.length ∧ R ≤ 1114111 ∧
    ((∃ b t, l = b :: t ∧ N = 1 ∧ b.toNat < 128 ∧ R = b.toNat) ∨ (128 ≤ R ∧ ∀ b ∈ l.take N, 128 ≤ b.toNat)) := by
  rcases h : decodeL l with ⟨R, N⟩
  have h1 := decodeL_width l
  have h2 := decodeL_rune l
  have h3 := decodeL_le l hne
  rw [h] at h1 h2 h3
  refine ⟨R, N, rfl, h1, h3, h2, ?_⟩
  rw [decodeL_N] at h
  have g : ∀ i, i < l.length → l.getD i 0 = l[i]! := by
    intro i hi
    simp [List.getD, hi]
  have hl : 0 < l.length := List.length_pos_iff.2 hne
  have inN : ∀ n, n ≤ l.length → (∀ i, i < n → 128 ≤ (l.getD i 0).toNat) → ∀ b ∈ l.take n, 128 ≤ b.toNat := by
    intro n hn hall b hb
    obtain ⟨i, hi, rfl⟩ := List.mem_iff_getElem.1 hb
    have hi2 : i < n := by rw [List.length_take] at hi; omega
    have := hall i hi2
    rw [List.getElem_take]
    simpa [List.getD, show i < l.length by omega] using this
  rcases decodeN_shape l.length (l.getD 0 0).toNat (l.getD 1 0).toNat (l.getD 2 0).toNat (l.getD 3 0).toNat with ⟨c, e⟩ | ⟨c1, c2, c3, c4, e⟩ | ⟨c1, c2, c3, c4, c5, c6, e⟩ | ⟨c1, c2, c3, c4, c5, c6, c7, e⟩ | e
  · rw [e] at h
    obtain ⟨rfl, rfl⟩ := Prod.mk.inj h
    left
    match l, hne with
    | b :: t, _ => exact ⟨b, t, rfl, rfl, by simpa using c, by simp⟩
  · rw [e] at h
    obtain ⟨rfl, rfl⟩ := Prod.mk.inj h
    right
    refine ⟨by omega, inN 2 (by omega) fun i hi => ?_⟩
    match i, hi with
    | 0, _ => omega
    | 1, _ => omega
  · rw [e] at h
    obtain ⟨rfl, rfl⟩ := Prod.mk.inj h
    right
    refine ⟨by omega, inN 3 (by omega) fun i hi => ?_⟩
    match i, hi with
    | 0, _ => omega
    | 1, _ => omega
    | 2, _ => omega
  · rw [e] at h
    obtain ⟨rfl, rfl⟩ := Prod.mk.inj h
    right
    refine ⟨by omega, inN 4 (by omega) fun i hi => ?_⟩
    match i, hi with
    | 0, _ => omega
    | 1, _ => omega
    | 2, _ => omega
    | 3, _ => omega
  · rw [e] at h
    obtain ⟨rfl, rfl⟩ := Prod.mk.inj h
    by_cases hb : (l.getD 0 0).toNat < 128
    · exfalso
      unfold decodeN at e
      rw [if_pos hb] at e
      have h65 : (l.getD 0 0).toNat = 65533 := congrArg Prod.fst e
      omega
    · right
      refine ⟨by omega, inN 1 (by omega) fun i hi => ?_⟩
      match i, hi with
      | 0, _ => omega

theorem goesOn_colon : goesOnS 58 = false := by decide
theorem beginsS_goesOnS (r : Int) (h : beginsS r = true) : goesOnS r = true := by unfold goesOnS; rw [h]; rfl

/-- No name holds a byte below 128 that is no character of names. -/
theorem names_byte (c : UInt8) (hc : c.toNat < 128) (hg : goesOnS c.toNat = false) : ∀ (f : Nat) (l : List UInt8) (at_ : Nat), l.length ≤ f → namesL f l at_ = true → c ∉ l := by
  intro f
  induction f with
  | zero =>
    intro l at_ hl _
    have : l = [] := List.eq_nil_of_length_eq_zero (by omega)
    subst this
    simp
  | succ f ih =>
    intro l at_ hl h
    by_cases hne : l = []
    · subst hne; simp
    · obtain ⟨R, N, hd, h1, h2, h3, hs⟩ := decode_bytes l hne
      rw [namesL, if_neg hne, hd] at h
      simp only at h
      split at h
      · cases h
      · rename_i hcond
        have hgo : goesOnS R = true := by
          cases hgo : goesOnS R with
          | true => rfl
          | false => exact absurd (.inr hgo) hcond
        have hrest := ih (l.drop N) (at_ + N) (by rw [List.length_drop]; omega) h
        intro hmem
        rw [← List.take_append_drop N l] at hmem
        rcases List.mem_append.1 hmem with hm | hm
        · rcases hs with ⟨b, t, rfl, rfl, hb, rfl⟩ | ⟨_, hall⟩
          · simp at hm
            subst hm
            rw [hg] at hgo
            cases hgo
          · have := hall c hm
            omega
        · exact hrest hm
theorem isName_byte (c : UInt8) (hc : c.toNat < 128) (hg : goesOnS c.toNat = false) (l : List UInt8) (h : isNameL l = true) : c ∉ l := by
  unfold isNameL at h
  simp only [Bool.and_eq_true] at h
  exact names_byte c hc hg l.length l 0 (Nat.le_refl _) h.1.2
theorem isName_ne (l : List UInt8) (h : isNameL l = true) : l ≠ [] := by
  unfold isNameL at h
  simp only [Bool.and_eq_true] at h
  intro e
  subst e
  simp at h
theorem isName_nil : isNameL [] = false := by simp [isNameL]

/-- Where all runes go on in names, a text is valid if no place is bad. -/
theorem names_bad : ∀ (f : Nat) (l : List UInt8) (at_ : Nat), namesL f l at_ = true → (∀ r, goesOnS r = true → inSpans isCharL r = true) → (validGoD f l = decide ((badL f l at_).1 < 0)) := by
  intro f
  induction f with
  | zero => intro l at_ _ _; simp [validGoD, badL]
  | succ f ih =>
    intro l at_ h hch
    by_cases hne : l = []
    · subst hne; simp [validGoD, badL]
    · rw [namesL, if_neg hne] at h
      rw [validGoD, badL, if_neg hne, if_neg hne]
      split at h
      · cases h
      · rename_i hcond
        have hgo : goesOnS (decodeL l).1 = true := by
          cases hgo : goesOnS (decodeL l).1 with
          | true => rfl
          | false => exact absurd (.inr hgo) hcond
        split
        · first | (simp; done) | (simp; omega)
        · rw [if_pos (hch _ hgo)]
          exact ih _ _ h hch

/-! ### the first colon -/
def colon (l : List UInt8) : Nat := l.findIdx (· == 58)
theorem index_colon (l : List UInt8) : index l [58] = if 58 ∈ l then ((colon l : Nat) : Int) else -1 := by
  induction l with
  | nil => simp [index]
  | cons b t ih =>
    unfold index colon
    by_cases hb : b = 58
    · subst hb
      simp [List.findIdx_cons]
    · have hb' : (b == 58) = false := by simp [hb]
      have hp : ([58] : List UInt8).isPrefixOf (b :: t) = false := by
        simp [List.isPrefixOf, Ne.symm hb]
      rw [hp]
      simp only [Bool.false_eq_true, if_false]
      rw [ih, List.findIdx_cons, hb']
      by_cases hm : (58 : UInt8) ∈ t
      · rw [if_pos hm, if_neg (by first | (simp; done) | (simp; omega)), if_pos (by simp [hm])]
        simp [colon]
      · rw [if_neg hm]
        simp [hm, Ne.symm hb]
theorem cut_colon (l : List UInt8) : cut l [58] = if 58 ∈ l then (l.take (colon l), l.drop (colon l + 1), true) else (l, [], false) := by
  unfold cut
  rw [index_colon]
  split
  · rw [if_pos (by omega)]; simp
  · rw [if_neg (by omega)]
theorem colon_before (l : List UInt8) : 58 ∉ l.take (colon l) := by
  intro h
  obtain ⟨i, hi, he⟩ := List.mem_iff_getElem.1 h
  rw [List.length_take] at hi
  have hi2 : i < l.findIdx (· == 58) := by unfold colon at hi; omega
  have := List.not_of_lt_findIdx hi2
  rw [List.getElem_take] at he
  simp [he] at this
theorem colon_at (l : List UInt8) (h : 58 ∈ l) : ∃ hc : colon l < l.length, l[colon l] = 58 := by
  have hc : colon l < l.length := List.findIdx_lt_length_of_exists ⟨58, h, by simp⟩
  exact ⟨hc, eq_of_beq (List.findIdx_getElem (xs := l) (p := (· == 58)) (w := hc))⟩
theorem colon_split (l : List UInt8) (h : 58 ∈ l) : l = l.take (colon l) ++ 58 :: l.drop (colon l + 1) := by
  obtain ⟨hc, he⟩ := colon_at l h
  rw [← he, List.getElem_cons_drop, List.take_append_drop]
theorem colon_append (a b : List UInt8) (h : 58 ∉ a) : colon (a ++ 58 :: b) = a.length := by
  unfold colon
  rw [List.findIdx_append]
  have : a.findIdx (· == 58) = a.length := List.findIdx_eq_length.2 fun x hx => by
    simp
    intro e
    subst e
    exact h hx
  rw [this]
  simp [List.findIdx_cons]

/-- A QName's parts. -/
def splitL (l : List UInt8) : List UInt8 × List UInt8 × Bool :=
  if 58 ∈ l then (if isNameL (l.drop (colon l + 1)) = true ∧ isNameL (l.take (colon l)) = true then (l.take (colon l), l.drop (colon l + 1), true) else ([], [], false))
  else if isNameL l = true then ([], l, true) else ([], [], false)
theorem splitL_join (a b : List UInt8) : splitL (a ++ 58 :: b) = if isNameL a = true ∧ isNameL b = true then (a, b, true) else ([], [], false) := by
  unfold splitL
  rw [if_pos (by simp)]
  by_cases ha : 58 ∈ a
  · have hna : ¬ isNameL a = true := fun h => isName_byte 58 (by decide) (by decide) a h ha
    have hR : (if isNameL a = true ∧ isNameL b = true then (a, b, true) else (([], [], false) : List UInt8 × List UInt8 × Bool)) = ([], [], false) := if_neg fun h => hna h.1
    rw [hR, if_neg]
    rintro ⟨h1, _⟩
    refine isName_byte 58 (by decide) (by decide) _ h1 ?_
    have e := colon_split a ha
    have hc : colon (a ++ 58 :: b) = colon a := by
      unfold colon
      rw [List.findIdx_append, if_pos]
      exact List.findIdx_lt_length_of_exists ⟨58, ha, by simp⟩
    rw [hc, List.drop_append_of_le_length (by obtain ⟨h, _⟩ := colon_at a ha; omega)]
    simp
  · rw [colon_append a b ha]
    have e1 : (a ++ 58 :: b).take a.length = a := by simp
    have e2 : (a ++ 58 :: b).drop (a.length + 1) = b := by simp
    rw [e1, e2]
    by_cases h1 : isNameL a = true <;> by_cases h2 : isNameL b = true <;> simp [h1, h2]
end Go.Proofs.YthedigbdkjcpfaaGreatDoor.Plain
