/- Valid texts as lists of runes: bytes of runes, decoded as they were. -/
import Derived.Test.YthedigbdkjcpfaaGreatDoorPlainB
import Derived.Lib.MapLaws
import Derived.Lib.RuneBytes
import Derived.Lib.TrimAscii
set_option linter.unusedSimpArgs false
namespace Go.Proofs.YthedigbdkjcpfaaGreatDoor.Enc
open Go.RowKit Go.Proofs.YthedigbdkjcpfaaGreatDoor.Plain Go.Lib
def okR (r : Int) : Prop := inSpans isCharL r = true
theorem ok_range {r : Int} (h : okR r) : 0 ≤ r ∧ r ≤ 1114111 ∧ (r < 55296 ∨ 57343 < r) := by
  simp only [okR, inSpans, isCharL, List.any_cons, List.any_nil, Bool.or_eq_true, Bool.and_eq_true, decide_eq_true_eq] at h
  rcases h with h | h | h | h | h | h
  · omega
  · omega
  · omega
  · omega
  · omega
  · cases h
def enc (rs : List Int) : List UInt8 := rs.flatMap encodeRune
def okRs (rs : List Int) : Prop := ∀ r ∈ rs, okR r
theorem enc_nil : enc [] = [] := rfl
theorem enc_cons (r : Int) (rs : List Int) : enc (r :: rs) = encodeRune r ++ enc rs := by simp [enc]
theorem enc_append (a b : List Int) : enc (a ++ b) = enc a ++ enc b := by simp [enc]
theorem okRs_cons {r : Int} {rs : List Int} (h : okRs (r :: rs)) : okR r ∧ okRs rs := ⟨h r (by simp), fun x hx => h x (by simp [hx])⟩
theorem okRs_append {a b : List Int} : okRs (a ++ b) ↔ okRs a ∧ okRs b :=
  ⟨fun h => ⟨fun x hx => h x (by simp [hx]), fun x hx => h x (by simp [hx])⟩, fun h x hx => (List.mem_append.1 hx).elim (h.1 x) (h.2 x)⟩
theorem rune_ascii {r : Int} (h0 : 0 ≤ r) (h1 : r < 128) : encodeRune r = [r.toNat.toUInt8] := by
  unfold encodeRune
  rw [encodeRuneZ_one h0 (by omega)]; rfl
theorem rune_len (r : Int) : 1 ≤ (encodeRune r).length := by
  unfold encodeRune; rw [List.length_map]; exact (encodeRuneZ_length r).1
theorem rune_ne (r : Int) : encodeRune r ≠ [] := fun h => by have := rune_len r; rw [h] at this; simp at this
theorem enc_len (rs : List Int) : rs.length ≤ (enc rs).length := by
  induction rs with
  | nil => simp [enc]
  | cons r rs ih => rw [enc_cons, List.length_append, List.length_cons]; have := rune_len r; omega
theorem enc_eq_nil {rs : List Int} : enc rs = [] ↔ rs = [] := by
  constructor
  · intro h
    have := enc_len rs
    rw [h] at this
    exact List.eq_nil_of_length_eq_zero (by simpa using this)
  · rintro rfl; rfl
theorem byteN (x : Int) (h0 : 0 ≤ x) (h1 : x < 256) : (x.toNat.toUInt8).toNat = x.toNat := by
  rw [Nat.toUInt8, UInt8.toNat_ofNat']; omega
/-- a rune's bytes beyond the first 128: all are such -/
theorem rune_high {r : Int} (h : okR r) (h1 : 128 ≤ r) : ∀ b ∈ encodeRune r, 128 ≤ b.toNat := by
  have hr := ok_range h
  intro b hb
  unfold encodeRune at hb
  obtain ⟨x, hx, rfl⟩ := List.mem_map.1 hb
  have key : 128 ≤ x ∧ x < 256 := by
    by_cases c2 : r ≤ 2047
    · rw [encodeRuneZ_two h1 c2] at hx
      simp only [List.mem_cons, List.not_mem_nil, or_false] at hx
      rcases hx with rfl | rfl <;> omega
    · by_cases c3 : r ≤ 65535
      · rw [encodeRuneZ_three (by omega)] at hx
        simp only [List.mem_cons, List.not_mem_nil, or_false] at hx
        rcases hx with rfl | rfl | rfl <;> omega
      · rw [encodeRuneZ_four (by omega) (by omega)] at hx
        simp only [List.mem_cons, List.not_mem_nil, or_false] at hx
        rcases hx with rfl | rfl | rfl | rfl <;> omega
  rw [byteN x (by omega) (by omega)]
  omega
theorem dec_enc {r : Int} (h : okR r) (t : List UInt8) : decodeL (encodeRune r ++ t) = (r.toNat, (encodeRune r).length) := by
  have hr := ok_range h
  by_cases c1 : r < 128
  · rw [rune_ascii hr.1 c1, List.singleton_append, decodeL_ascii _ _ (by rw [byteN r hr.1 (by omega)]; omega), byteN r hr.1 (by omega)]
    rfl
  · rw [decodeL_N]
    unfold encodeRune
    by_cases c2 : r ≤ 2047
    · rw [encodeRuneZ_two (by omega) c2]
      simp only [List.map_cons, List.map_nil, List.cons_append, List.nil_append, List.getD_cons_zero, List.getD_cons_succ, List.length_cons, List.length_nil]
      rw [byteN _ (by omega) (by omega), byteN _ (by omega) (by omega)]
      unfold decodeN
      rw [if_neg (by omega), if_pos ⟨by omega, by omega, by omega⟩, if_pos (by omega)]
      simp only [Prod.mk.injEq, and_true]
      omega
    · by_cases c3 : r ≤ 65535
      · rw [encodeRuneZ_three (by omega)]
        simp only [List.map_cons, List.map_nil, List.cons_append, List.nil_append, List.getD_cons_zero, List.getD_cons_succ, List.length_cons, List.length_nil]
        rw [byteN _ (by omega) (by omega), byteN _ (by omega) (by omega), byteN _ (by omega) (by omega)]
        unfold decodeN
        rw [if_neg (by omega), if_neg (by omega), if_pos ⟨by omega, ⟨by omega, by omega⟩, by omega, by omega⟩, if_pos (by omega)]
        simp only [Prod.mk.injEq, and_true]
        omega
      · rw [encodeRuneZ_four (by omega) (by omega)]
        simp only [List.map_cons, List.map_nil, List.cons_append, List.nil_append, List.getD_cons_zero, List.getD_cons_succ, List.length_cons, List.length_nil]
        rw [byteN _ (by omega) (by omega), byteN _ (by omega) (by omega), byteN _ (by omega) (by omega), byteN _ (by omega) (by omega)]
        unfold decodeN
        rw [if_neg (by omega), if_neg (by omega), if_neg (by omega), if_pos ⟨by omega, ⟨by omega, by omega⟩, ⟨by omega, by omega⟩, by omega, by omega⟩, if_pos (by omega)]
        simp only [Prod.mk.injEq, and_true]
        omega
/-- a text in which nothing is wrong is one of runes -/
theorem enc_of_good : ∀ (f : Nat) (l : List UInt8) (a : Nat), l.length ≤ f → (badL f l a).1 < 0 → ∃ rs, okRs rs ∧ enc rs = l := by
  intro f
  induction f with
  | zero => intro l a hl _; exact ⟨[], fun _ h => by simp at h, by have : l = [] := List.eq_nil_of_length_eq_zero (by omega); rw [this]; rfl⟩
  | succ f ih =>
    intro l a hl hb
    rw [badL] at hb
    by_cases hne : l = []
    · exact ⟨[], fun _ h => by simp at h, by rw [hne]; rfl⟩
    · rw [if_neg hne] at hb
      by_cases hv : (decodeL l).1 = 65533 ∧ (decodeL l).2 = 1
      · rw [if_pos hv] at hb; simp only at hb; omega
      · rw [if_neg hv] at hb
        by_cases hc : inSpans isCharL (decodeL l).1 = true
        · rw [if_pos hc] at hb
          have hw := decodeL_width l
          obtain ⟨rs, h1, h2⟩ := ih (l.drop (decodeL l).2) _ (by rw [List.length_drop]; omega) hb
          refine ⟨((decodeL l).1 : Int) :: rs, fun x hx => ?_, ?_⟩
          · rcases List.mem_cons.1 hx with rfl | hx
            · exact hc
            · exact h1 x hx
          · rw [enc_cons, encode_decode l hne hv, h2, List.take_append_drop]
        · rw [if_neg hc] at hb; simp only at hb; omega
theorem rune_valid {r : Int} (h : okR r) : ¬ (r.toNat = 65533 ∧ (encodeRune r).length = 1) := by
  rintro ⟨h1, h2⟩
  have : r = 65533 := by have := ok_range h; omega
  subst this
  revert h2
  decide
theorem good_of_enc : ∀ (f : Nat) (rs : List Int) (a : Nat), okRs rs → badL f (enc rs) a = (-1, 0) := by
  intro f
  induction f with
  | zero => intro rs a _; rfl
  | succ f ih =>
    intro rs a h
    rcases rs with _ | ⟨r, rs⟩
    · exact badL_nil _ _
    · have hr := okRs_cons h
      rw [badL, enc_cons, if_neg (by simp [rune_ne]), dec_enc hr.1]
      simp only
      rw [if_neg (rune_valid hr.1), if_pos (by have := ok_range hr.1; rw [show ((r.toNat : Nat) : Int) = r by omega]; exact hr.1), List.drop_left]
      exact ih rs _ hr.2
theorem good_iff (l : List UInt8) : (badL l.length l 0).1 < 0 ↔ ∃ rs, okRs rs ∧ enc rs = l := by
  constructor
  · exact enc_of_good _ l 0 (Nat.le_refl _)
  · rintro ⟨rs, h, rfl⟩
    rw [good_of_enc _ rs 0 h]; decide
/-- a text that ends with a byte below 128 -/
theorem enc_snoc {rs : List Int} (h : okRs rs) (l : List UInt8) (c : UInt8) (hc : c.toNat < 128) (he : enc rs = l ++ [c]) : ∃ rs', rs = rs' ++ [(c.toNat : Int)] ∧ enc rs' = l := by
  rcases List.eq_nil_or_concat rs with rfl | ⟨rs', x, rfl⟩
  · simp [enc] at he
  · rw [List.concat_eq_append] at h he ⊢
    have hx : okR x := h x (by simp)
    rw [enc_append, enc_cons, enc_nil, List.append_nil] at he
    have hlast : c ∈ encodeRune x := by
      have h1 := congrArg List.getLast? he
      rw [List.getLast?_append, List.getLast?_append, List.getLast?_eq_some_getLast (rune_ne x)] at h1
      have h2 : (encodeRune x).getLast (rune_ne x) = c := by simpa using h1
      rw [← h2]
      exact List.getLast_mem _
    have hx128 : x < 128 := by
      refine Int.lt_of_not_ge fun hge => ?_
      have := rune_high hx hge c hlast
      omega
    have hr := ok_range hx
    rw [rune_ascii hr.1 hx128] at he hlast
    have hcx : c = x.toNat.toUInt8 := by simpa using hlast
    have := List.append_inj_left' he (by simp)
    refine ⟨rs', ?_, this⟩
    rw [hcx, byteN x hr.1 (by omega), show ((x.toNat : Nat) : Int) = x by omega]
theorem enc_head {rs : List Int} (h : okRs rs) (l : List UInt8) (c : UInt8) (hc : c.toNat < 128) (he : enc rs = c :: l) : ∃ rs', rs = (c.toNat : Int) :: rs' ∧ enc rs' = l := by
  rcases rs with _ | ⟨x, rs'⟩
  · simp [enc] at he
  · have hx := okRs_cons h
    have h2 := dec_enc hx.1 (enc rs')
    rw [← enc_cons, he, decodeL_ascii _ _ hc] at h2
    have hr := ok_range hx.1
    have h3 := (Prod.mk.inj h2).1
    have hxc : x = (c.toNat : Int) := by omega
    subst hxc
    refine ⟨rs', rfl, ?_⟩
    rw [enc_cons, rune_ascii (by omega) (by omega)] at he
    simpa using he
theorem enc_inj : ∀ (a b : List Int), okRs a → okRs b → enc a = enc b → a = b := by
  intro a
  induction a with
  | nil => intro b _ _ h; exact (enc_eq_nil.1 h.symm).symm
  | cons r a ih =>
    intro b ha hb h
    rcases b with _ | ⟨q, b⟩
    · exact enc_eq_nil.1 h
    · have h1 := okRs_cons ha
      have h2 := okRs_cons hb
      have d1 := dec_enc h1.1 (enc a)
      have d2 := dec_enc h2.1 (enc b)
      rw [← enc_cons, h, enc_cons, d2] at d1
      have e := (Prod.mk.inj d1).1
      have r1 := ok_range h1.1
      have r2 := ok_range h2.1
      have : r = q := by omega
      subst this
      rw [enc_cons, enc_cons] at h
      rw [ih b h1.2 h2.2 (List.append_cancel_left h)]
/-- a text of bytes below 128 -/
theorem enc_ascii (cs : List UInt8) (h : ∀ c ∈ cs, c.toNat < 128) : enc (cs.map fun c => (c.toNat : Int)) = cs := by
  induction cs with
  | nil => rfl
  | cons c cs ih =>
    have hc := h c (by simp)
    rw [List.map_cons, enc_cons, rune_ascii (by omega) (by omega), ih fun x hx => h x (by simp [hx])]
    simp
end Go.Proofs.YthedigbdkjcpfaaGreatDoor.Enc
