/- A number in a format, read back: without Go and memory. -/
import Derived.Test.YthedigbdkjcpfaaDoorPrintf13
import Derived.Test.YthedigbdkjcpfaaDoorPrintxsortroman
import Derived.Test.YthedigbdkjcpfaaDoorPrintxsortformat
import Derived.Test.YthedigbdkjcpfaaDoorPrintxsortguess
import Derived.Test.YthedigbdkjcpfaaDoorPrintf33
import Derived.Test.YthedigbdkjcpfaaDoorPrintlibtrimright
import Derived.Test.YthedigbdkjcpfaaDoorPrintlibtolower
import Derived.Test.YthedigbdkjcpfaaDoorPrintlibitoa
import Derived.Test.YthedigbdkjcpfaaDoorPrintlibrepeat
import Derived.Test.YthedigbdkjcpfaaDoorPrintlibtrimleft
import Derived.Test.YthedigbdkjcpfaaDoorSortL
import Derived.Test.YthedigbdkjcpfaaDoorNumD
import Derived.Lib.TrimAscii
import Derived.Lib.ItoaMem
import Derived.Shelf.Strings.CaseAny
set_option linter.unusedSimpArgs false
namespace Go.Proofs.YthedigbdkjcpfaaDoor.SortL
open Go.RowKit Go.Proofs.YthedigbdkjcpfaaDoorW.PrintWords Go.Proofs.YthedigbdkjcpfaaDoor.Plain Go.Proofs.YthedigbdkjcpfaaDoor.Print Go.Proofs.YthedigbdkjcpfaaDoor.NumD
open Go.Lib (decDigits)
def digs : List UInt8 := [48, 49, 50, 51, 52, 53, 54, 55, 56, 57]
theorem trim_p (l : List UInt8) (h : l.length ≤ 1000000) : strings_Trim.f (B l) (⟨#[48, 49, 50, 51, 52, 53, 54, 55, 56, 57]⟩ : ByteArray) = some (B (Lib.trimS l digs)) := by
  unfold strings_Trim.f
  rw [if_pos ⟨by rw [B_size]; omega, by decide, by decide⟩]
  rfl
theorem lower_p (l : List UInt8) (h : l.length ≤ 1000000) (ha : ∀ b ∈ l, b.toNat < 128) : strings_ToLower.f (B l) = some (B (Lib.toLowerA l)) := by
  unfold strings_ToLower.f
  rw [if_pos (by rw [B_size]; omega), B_list, Lib.toLowerD_ascii l ha]
  rfl
theorem upper_p (l : List UInt8) (h : l.length ≤ 1000000) (ha : ∀ b ∈ l, b.toNat < 128) : strings_ToUpper.f (B l) = some (B (Lib.toUpperA l)) := by
  unfold strings_ToUpper.f
  rw [if_pos (by rw [B_size]; omega), B_list, Lib.toUpperD_ascii l ha]
  rfl
theorem itoa_p (n : Nat) (h : n ≤ 1000000000) : strconv_Itoa.f (n : Int) = some (B (decDigits n)) := by
  unfold strconv_Itoa.f
  rw [if_pos ⟨by omega, by omega⟩, Lib.itoa_nonneg]
  rfl
theorem isD_ascii {c : UInt8} (h : isD c) : c.toNat < 128 := by unfold isD at h; omega
theorem lower_id {l : List UInt8} (h : ∀ c ∈ l, ¬ (65 ≤ c.toNat ∧ c.toNat ≤ 90)) : Lib.toLowerA l = l := by
  unfold Lib.toLowerA
  conv => rhs; rw [← List.map_id l]
  refine List.map_congr_left fun c hc => ?_
  have := h c hc
  unfold Lib.lowerB Lib.isUpperB
  rw [if_neg]
  · rfl
  · simpa [UInt8.le_iff_toNat_le] using this
theorem upper_id {l : List UInt8} (h : ∀ c ∈ l, ¬ (97 ≤ c.toNat ∧ c.toNat ≤ 122)) : Lib.toUpperA l = l := by
  unfold Lib.toUpperA
  conv => rhs; rw [← List.map_id l]
  refine List.map_congr_left fun c hc => ?_
  have := h c hc
  unfold Lib.upperB Lib.isLowerB
  rw [if_neg]
  · rfl
  · simpa [UInt8.le_iff_toNat_le] using this
theorem low_up : (List.range 26).all (fun d => decide (Lib.lowerB (Lib.upperB (UInt8.ofNat (97 + d))) = UInt8.ofNat (97 + d)) && decide ((Lib.upperB (UInt8.ofNat (97 + d))).toNat < 128) && !(digs.contains (Lib.upperB (UInt8.ofNat (97 + d)))) && !(digs.contains (UInt8.ofNat (97 + d)))) = true := by kernel_rfl
theorem letter_all : ∀ (f n : Nat), ∀ c ∈ lettersF f n, ∃ d, d < 26 ∧ c = UInt8.ofNat (97 + d)
  | 0, n, c, hc => by simp [lettersF] at hc
  | f + 1, 0, c, hc => by simp [lettersF] at hc
  | f + 1, n + 1, c, hc => by
    rw [lettersF] at hc
    rcases List.mem_append.1 hc with h | h
    · exact letter_all f _ c h
    · exact ⟨n % 26, Nat.mod_lt _ (by decide), by simpa using h⟩
theorem guessL_ascii : ∀ (f : Nat) (c : UInt8) (t : List UInt8) (n : Int), c.toNat < 128 → guessL (f + 1) (c :: t) n = if (c.toNat : Int) < 97 then 0 else if (c.toNat : Int) > 122 then 0 else if n > 1000000000 then 0 else guessL f t (26 * n + ((c.toNat : Int) - 97) + 1) := by
  intro f c t n h
  rw [guessL, if_neg (by simp), Lib.decodeL_ascii c t h]
  rfl
theorem guessL_more : ∀ (f g : Nat) (l : List UInt8) (n : Int), l.length ≤ f → l.length ≤ g → (∀ c ∈ l, c.toNat < 128) → guessL f l n = guessL g l n
  | f, g, [], n, _, _, _ => by rw [guessL_nil, guessL_nil]
  | f, g, c :: t, n, hf, hg, ha => by
    obtain ⟨f, rfl⟩ : ∃ j, f = j + 1 := ⟨f - 1, by simp only [List.length_cons] at hf; omega⟩
    obtain ⟨g, rfl⟩ : ∃ j, g = j + 1 := ⟨g - 1, by simp only [List.length_cons] at hg; omega⟩
    simp only [List.length_cons] at hf hg
    rw [guessL_ascii f c t n (ha c (by simp)), guessL_ascii g c t n (ha c (by simp)), guessL_more f g t _ (by omega) (by omega) (fun x hx => ha x (by simp [hx]))]
theorem back_letters : ∀ (f n : Nat) (t : List UInt8), n < 26 ^ f → n ≤ 1000000000 → (∀ c ∈ t, c.toNat < 128) → guessL (f + t.length) (lettersF f n ++ t) 0 = guessL (f + t.length) t (n : Int)
  | 0, n, t, hn, _, _ => by
    have : n = 0 := by simpa using hn
    subst this
    rfl
  | f + 1, 0, t, _, _, _ => by rfl
  | f + 1, n + 1, t, hn, hb, ha => by
    have hd : n / 26 < 26 ^ f := div_lt hn
    clear hn
    have hm : n % 26 < 26 := Nat.mod_lt _ (by decide)
    have hc : (UInt8.ofNat (97 + n % 26)).toNat = 97 + n % 26 := by simp; omega
    have ha2 : ∀ c ∈ UInt8.ofNat (97 + n % 26) :: t, c.toNat < 128 := by
      intro c h
      rcases List.mem_cons.1 h with rfl | h
      · rw [hc]; clear hd; omega
      · exact ha c h
    have ih := back_letters f (n / 26) (UInt8.ofNat (97 + n % 26) :: t) hd (by clear hd; omega) ha2
    rw [lettersF, List.append_assoc]
    have e : f + (UInt8.ofNat (97 + n % 26) :: t).length = f + 1 + t.length := by simp only [List.length_cons]; clear hd; omega
    rw [e] at ih
    show guessL (f + 1 + t.length) (lettersF f (n / 26) ++ (UInt8.ofNat (97 + n % 26) :: t)) 0 = _
    rw [ih]
    have e2 : f + 1 + t.length = (f + t.length) + 1 := by clear hd; omega
    rw [e2, guessL_ascii _ _ _ _ (by rw [hc]; clear hd; omega), hc, if_neg (by clear hd; omega), if_neg (by clear hd; omega), if_neg (by clear hd; omega)]
    have e3 : 26 * ((n / 26 : Nat) : Int) + (((97 + n % 26 : Nat) : Int) - 97) + 1 = ((n + 1 : Nat) : Int) := by clear hd; omega
    rw [e3]
    exact guessL_more _ _ t _ (by omega) (by omega) ha
theorem letters_lt {n : Nat} (h : n ≤ 1000000000) : n < 26 ^ 9 := by
  have : (26 : Nat) ^ 9 = 5429503678976 := by decide
  omega
theorem dig_app (a : Nat) (l m : List UInt8) : digN a (l ++ m) = digN (digN a l) m := by unfold digN; exact List.foldl_append ..
theorem dig_val (n : Nat) : digN 0 (decDigits n) = n := dec_val n
theorem dig_zero : ∀ (m : Nat) , digN 0 (List.replicate m 48) = 0
  | 0 => rfl
  | m + 1 => by
    rw [List.replicate_succ, digN_cons]
    exact dig_zero m
theorem guess_digs (l fmt : List UInt8) (n : Nat) (hl : l ≠ []) (hz : l.length ≤ 10000) (hd : ∀ c ∈ l, isD c) (hv : digN 0 l = n) (hn : n < 2305843009213693952) (h97 : fmt ≠ [97]) (h65 : fmt ≠ [65]) : xsort_guess.f (B l) (B fmt) = some (n : Int) := by
  have ht : Lib.trimS l digs = [] := trim_all fun c hc => (d_digit (hd c hc)).1
  have had : allDig (B l).data.toList = true := List.all_eq_true.2 fun c hc => decide_eq_true (hd c hc)
  unfold xsort_guess.f
  rw [if_pos (by rw [B_size]; omega), trim_p l (by omega), obind, ht, if_pos ⟨by rw [Lib.toList_data]; rfl, by rw [Lib.toList_data]; exact h97, by rw [Lib.toList_data]; exact h65⟩, if_pos had, B_list]
  unfold dres
  rw [if_neg hl, hv, if_pos hn]
theorem guess_let (l fmt : List UInt8) (hz : l.length ≤ 10000) (ha : ∀ c ∈ l, c.toNat < 128) (hno : Lib.trimS l digs ≠ [] ∨ fmt = [97] ∨ fmt = [65]) (h105 : fmt ≠ [105]) (h73 : fmt ≠ [73]) :
    xsort_guess.f (B l) (B fmt) = some (guessL (Lib.toLowerA l).length (Lib.toLowerA l) 0) := by
  have hlen : (Lib.toLowerA l).length = l.length := by unfold Lib.toLowerA; rw [List.length_map]
  unfold xsort_guess.f
  rw [if_pos (by rw [B_size]; omega), trim_p l (by omega), obind, if_neg, lower_p l (by omega) ha, obind, if_pos (by rw [B_size, hlen]; omega), if_neg, B_size, B_list]
  · rw [Lib.toList_data, B_list]
    rintro (h | h)
    · exact h105 h
    · exact h73 h
  · rw [Lib.toList_data, Lib.toList_data, B_list, B_list]
    rintro ⟨h1, h2, h3⟩
    rcases hno with h | h | h
    · exact h h1
    · exact h2 h
    · exact h3 h
theorem guess_rom (l fmt : List UInt8) (hz : l.length ≤ 10000) (ha : ∀ c ∈ l, c.toNat < 128) (hno : Lib.trimS l digs ≠ []) (hi : fmt = [105] ∨ fmt = [73]) :
    xsort_guess.f (B l) (B fmt) = some (guessR (Lib.toLowerA l).length (Lib.toLowerA l) 0 0) := by
  have hlen : (Lib.toLowerA l).length = l.length := by unfold Lib.toLowerA; rw [List.length_map]
  unfold xsort_guess.f
  rw [if_pos (by rw [B_size]; omega), trim_p l (by omega), obind, if_neg, lower_p l (by omega) ha, obind, if_pos (by rw [B_size, hlen]; omega), if_pos, B_size, B_list]
  · rw [Lib.toList_data, B_list]
    exact hi
  · rw [Lib.toList_data, B_list]
    rintro ⟨h1, _, _⟩
    exact hno h1
end Go.Proofs.YthedigbdkjcpfaaDoor.SortL
