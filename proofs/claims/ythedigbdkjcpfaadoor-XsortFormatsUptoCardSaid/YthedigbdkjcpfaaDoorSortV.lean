/- The document's Format as the same text: without Go and memory. -/
import Derived.Test.YthedigbdkjcpfaaDoorPrintf20
import Derived.Test.YthedigbdkjcpfaaDoorPrintf10
import Derived.Test.YthedigbdkjcpfaaDoorPrintf38
import Derived.Test.YthedigbdkjcpfaaDoorPrintf3
import Derived.Test.YthedigbdkjcpfaaDoorPrintxsortformat
import Derived.Test.YthedigbdkjcpfaaDoorSortU
set_option linter.unusedSimpArgs false
namespace Go.Proofs.YthedigbdkjcpfaaDoor.SortL
open Go.RowKit Go.Proofs.YthedigbdkjcpfaaDoorW.PrintWords Go.Proofs.YthedigbdkjcpfaaDoor.Plain Go.Proofs.YthedigbdkjcpfaaDoor.Print Go.Proofs.YthedigbdkjcpfaaDoor.NumD
open Go.Lib (decDigits)
theorem pad_l0 (F : List UInt8) (hz : F.length ≤ 1000) : ∀ (j k : Nat) (ds : List UInt8), F.length - ds.length = j → ds.length ≤ 1000 → j + 1 ≤ k → stencilref13_Format.l0 k (B F) false (B ds) = some (B (List.replicate j 48 ++ ds), 0)
  | 0, k, ds, hj, hd, hk => by
    obtain ⟨k, rfl⟩ : ∃ i, k = i + 1 := ⟨k - 1, by omega⟩
    rw [stencilref13_Format.l0, if_neg (by decide), if_neg (by rw [B_size, B_size]; omega)]
    rfl
  | j + 1, k, ds, hj, hd, hk => by
    obtain ⟨k, rfl⟩ : ∃ i, k = i + 1 := ⟨k - 1, by omega⟩
    have e : (⟨#[48]⟩ : ByteArray) ++ B ds = B (48 :: ds) := B_append [48] ds
    rw [stencilref13_Format.l0, if_neg (by decide), if_pos (by rw [B_size, B_size]; omega), if_pos (by rw [B_size]; omega), e, pad_l0 F hz j k (48 :: ds) (by simp only [List.length_cons]; omega) (by simp only [List.length_cons]; omega) (by omega)]
    congr 3
    rw [List.replicate_succ', List.append_assoc]
    rfl
theorem j3_pad (F : List UInt8) (hz : F.length ≤ 200) (n : Nat) (h2 : n < 2305843009213693952) (k : Nat) (hk : 250 ≤ k) : stencilref13_Format.j3 k (n : Int) (B F) false = some (B (List.replicate (F.length - (decDigits n).length) 48 ++ decDigits n), 0) := by
  obtain ⟨k, rfl⟩ : ∃ i, k = i + 1 := ⟨k - 1, by omega⟩
  have hl := dlen h2
  rw [stencilref13_Format.j3, (digits_ref 18 n k (d19 h2) (by omega) (by omega) (by omega)).1, obind, pad_l0 F (by omega) _ k (decDigits n) rfl (by omega) (by omega)]
theorem j3_dig (F : List UInt8) (n : Nat) (h2 : n < 2305843009213693952) (k : Nat) (hk : 250 ≤ k) : stencilref13_Format.j3 k (n : Int) (B F) true = some (B (decDigits n), 0) := by
  obtain ⟨k, rfl⟩ : ∃ i, k = i + 2 := ⟨k - 2, by omega⟩
  rw [stencilref13_Format.j3, (digits_ref 18 n (k + 1) (d19 h2) (by omega) (by omega) (by omega)).1, obind, stencilref13_Format.l0, if_pos rfl]
theorem let_r14 (n : Nat) (h : n < 2305843009213693952) (k : Nat) (hk : 64 ≤ k) : stencilref13_Letters.f k (n : Int) = some (B (lettersF 14 n)) := letters_r 14 n k (l14 h) (by omega) (by omega) (by omega)
/-- the document's Format behind its tests -/
theorem j1_txt (F : List UInt8) (hz : F.length ≤ 200) (n : Nat) (h1 : 1 ≤ n) (h2 : n < 2305843009213693952) (x6 : Bool) (hx : x6 = (decide (F = [105]) || decide (F = [73]))) (k : Nat) (hk : 280 ≤ k) : stencilref13_Format.j1 k (n : Int) (B F) x6 false = some (B (txt F n), 0) := by
  obtain ⟨k, rfl⟩ : ∃ i, k = i + 3 := ⟨k - 3, by omega⟩
  unfold txt
  rw [stencilref13_Format.j1, if_neg (by decide), if_neg (by omega), BL]
  by_cases h97 : F = [97]
  · rw [if_pos h97, if_pos h97, let_r14 n h2 _ (by omega), obind]
  rw [if_neg h97, if_neg h97]
  by_cases h65 : F = [65]
  · have hl := letters_len 14 n
    rw [if_pos h65, if_pos h65, let_r14 n h2 _ (by omega), obind, upper_ref _ (by omega) _ (by omega), obind, map_up _ (letter_all 14 n)]
  rw [if_neg h65, if_neg h65]
  by_cases h105 : F = [105]
  · have hx2 : x6 = true := by rw [hx, decide_eq_true h105]; rfl
    rw [if_pos h105, if_pos h105, stencilref13_Format.j2]
    by_cases hb : n ≤ 3999
    · obtain ⟨r1, r2, r3, r4⟩ := rom_b n h1 hb
      rw [if_pos (decide_eq_true (show (n : Int) ≤ 3999 by omega)), rom_r n h1 hb _ (by omega), obind, lower_ref _ (by omega) _ (by omega), obind, map_low _ r2, if_pos hb]
    · rw [if_neg (by rw [decide_eq_false (show ¬ (n : Int) ≤ 3999 by omega)]; decide), BL, if_neg (by rw [h105]; decide), hx2, j3_dig F n h2 _ (by omega), if_neg hb]
  rw [if_neg h105, if_neg h105, stencilref13_Format.j2, if_neg (by decide), BL]
  by_cases h73 : F = [73]
  · have hx2 : x6 = true := by rw [hx, decide_eq_true h73, Bool.or_true]
    rw [if_pos h73, if_pos h73]
    by_cases hb : n ≤ 3999
    · rw [if_pos (by omega), rom_r n h1 hb _ (by omega), obind, if_pos hb]
    · rw [if_neg (by omega), hx2, j3_dig F n h2 _ (by omega), if_neg hb]
  · have hx2 : x6 = false := by rw [hx, decide_eq_false h105, decide_eq_false h73]; rfl
    rw [if_neg h73, if_neg h73, hx2, j3_pad F hz n h2 _ (by omega)]
theorem j1_low (F : List UInt8) (n : Int) (h1 : n < 1) (x6 : Bool) (k : Nat) (hk : 1 ≤ k) : stencilref13_Format.j1 k n (B F) x6 false = some ((⟨#[]⟩ : ByteArray), 2) := by
  obtain ⟨k, rfl⟩ : ∃ i, k = i + 1 := ⟨k - 1, by omega⟩
  rw [stencilref13_Format.j1, if_neg (by decide), if_pos h1]
/-- the document's Format up to its tests -/
theorem f_r (F : List UInt8) (hz : F.length ≤ 200) (n : Int) (k : Nat) (hk : 300 ≤ k) : stencilref13_Format.f k n (B F) = if validF F = true then stencilref13_Format.j1 (k - 1) n (B F) (decide (F = [105]) || decide (F = [73])) false else some ((⟨#[]⟩ : ByteArray), 18) := by
  obtain ⟨k, rfl⟩ : ∃ i, k = i + 2 := ⟨k - 2, by omega⟩
  have hp := plain_ref F (by omega) (k + 1) (by omega)
  have hx : stencilref13_Format.f (k + 2) n (B F) = stencilref13_Format.j0 (k + 2) n (B F) (decide (F = [105]) || decide (F = [73])) := by
    unfold stencilref13_Format.f
    rw [BL]
    by_cases h105 : F = [105]
    · rw [if_pos h105, decide_eq_true h105]
      rfl
    · rw [if_neg h105, decide_eq_false h105, Bool.false_or]
      by_cases h73 : F = [73]
      · rw [decide_eq_true h73, h73]; rfl
      · rw [decide_eq_false h73, beq_eq_false_iff_ne.2 h73]
  rw [hx, stencilref13_Format.j0, hp, obind, BL, show k + 2 - 1 = k + 1 from rfl]
  unfold validF
  cases hpl : plB F
  · rw [if_neg (by decide)]
    by_cases h97 : F = [97]
    · rw [if_pos h97, if_pos (by simp [h97])]
    · rw [if_neg h97]
      by_cases h65 : F = [65]
      · rw [if_pos h65, if_pos (by simp [h65])]
      · rw [if_neg h65]
        by_cases hi : (decide (F = [105]) || decide (F = [73])) = true
        · rw [hi, if_pos]
          · rfl
          · simpa [h97, h65] using hi
        · have hi2 : (decide (F = [105]) || decide (F = [73])) = false := by simpa using hi
          rw [hi2, if_neg]
          · rw [stencilref13_Format.j1, if_pos (by decide)]
          · simpa [h97, h65] using hi2
  · rw [if_pos rfl, if_pos (by simp)]
theorem form_r (F : List UInt8) (hz : F.length ≤ 200) (hv : validF F = true) (n : Nat) (h1 : 1 ≤ n) (h2 : n < 2305843009213693952) (k : Nat) (hk : 300 ≤ k) : stencilref13_Format.f k (n : Int) (B F) = some (B (txt F n), 0) := by
  rw [f_r F hz n k hk, if_pos hv, j1_txt F hz n h1 h2 _ rfl _ (by omega)]
theorem low_r (F : List UInt8) (hz : F.length ≤ 200) (hv : validF F = true) (n : Int) (h1 : n < 1) (k : Nat) (hk : 300 ≤ k) : stencilref13_Format.f k n (B F) = some ((⟨#[]⟩ : ByteArray), 2) := by
  rw [f_r F hz n k hk, if_pos hv, j1_low F n h1 _ _ (by omega)]
theorem none_r (F : List UInt8) (hz : F.length ≤ 200) (hv : ¬ validF F = true) (n : Int) (k : Nat) (hk : 300 ≤ k) : stencilref13_Format.f k n (B F) = some ((⟨#[]⟩ : ByteArray), 18) := by
  rw [f_r F hz n k hk, if_neg hv]
/-- the program's Format, below 1 and in no format -/
theorem none_p (F : List UInt8) (hv : ¬ validF F = true) (n : Int) (k : Nat) : xsort_Format.f k n (B F) = some ((⟨#[]⟩ : ByteArray), 18) := by
  unfold validF at hv
  simp only [Bool.or_eq_true, decide_eq_true_eq, not_or] at hv
  obtain ⟨⟨⟨⟨hp, h97⟩, h65⟩, h105⟩, h73⟩ := hv
  unfold xsort_Format.f
  rw [BL, if_neg h97, if_neg h65, if_neg h105, if_neg h73, plain_prog, obind, if_neg hp]
theorem low_p (F : List UInt8) (hz : F.length ≤ 200) (hv : validF F = true) (n : Int) (h0 : -9223372036854775808 ≤ n) (h1 : n < 1) (k : Nat) (hk : 2 ≤ k) : xsort_Format.f k n (B F) = some ((⟨#[]⟩ : ByteArray), 2) := by
  have hL : xsort_Letters.f k n = some (B []) := by
    obtain ⟨k, rfl⟩ : ∃ i, k = i + 1 := ⟨k - 1, by omega⟩
    unfold xsort_Letters.f
    rw [xsort_Letters.l0, if_neg (by omega)]
    rfl
  have hR : xsort_Roman.f n = some (B []) := by unfold xsort_Roman.f; rw [if_pos h1]; rfl
  have hI : ∃ t, strconv_Itoa.f n = some (B t) ∧ t.length ≤ 21 := by
    unfold strconv_Itoa.f
    rw [if_pos ⟨h0, by omega⟩]
    exact ⟨Lib.itoa n, rfl, Lib.itoa_length_le n h0 (by omega)⟩
  obtain ⟨t, hI, htl⟩ := hI
  have hT : strings_ToLower.f (B []) = some (B []) := lower_p [] (by simp) (fun c hc => by cases hc)
  unfold xsort_Format.f xsort_Format.endF xsort_Format.endU
  simp only [if_pos h1]
  rw [BL]
  by_cases h97 : F = [97]
  · rw [if_pos h97, hL, obind]
  by_cases h65 : F = [65]
  · rw [if_neg h97, if_pos h65, hL, obind]
  by_cases h105 : F = [105]
  · rw [if_neg h97, if_neg h65, if_pos h105, hR, obind, hT, obind, BL, if_pos rfl, hI, obind]
  by_cases h73 : F = [73]
  · rw [if_neg h97, if_neg h65, if_neg h105, if_pos h73, hR, obind, hT, obind, BL, if_pos rfl, hI, obind]
  have hp : plB F = true := by
    unfold validF at hv
    simpa [h97, h65, h105, h73] using hv
  have hm : ∃ m : Nat, mx (wrap64 (((B F).size : Int) - ((B t).size : Int))) 0 = (m : Int) ∧ m ≤ 200 := by
    rw [B_size, B_size, w64s (by omega) (by omega)]
    unfold mx
    split
    · exact ⟨0, rfl, by omega⟩
    · exact ⟨((F.length : Int) - (t.length : Int)).toNat, by omega, by omega⟩
  obtain ⟨m, hm, hm2⟩ := hm
  have hr : strings_Repeat.f (⟨#[48]⟩ : ByteArray) (m : Int) = some (B (List.replicate m 48)) := by
    unfold strings_Repeat.f
    have e1 : (⟨#[48]⟩ : ByteArray).size = 1 := rfl
    rw [if_pos ⟨by omega, by omega, by rw [e1, Int.toNat_natCast]; omega⟩, Int.toNat_natCast]
    show some (B (Lib.repeatL [48] _)) = _
    rw [rep_ll]
  rw [if_neg h97, if_neg h65, if_neg h105, if_neg h73, plain_prog, hp, obind, if_pos rfl, hI, obind, hm, hr, obind, B_size, B_size, if_pos (by rw [List.length_replicate]; omega)]
end Go.Proofs.YthedigbdkjcpfaaDoor.SortL
