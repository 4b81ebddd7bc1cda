/- Both sides' Format as one text: without Go and memory. -/
import Derived.Test.YthedigbdkjcpfaaDoorPrintxsortformat
import Derived.Test.YthedigbdkjcpfaaDoorPrintf13
import Derived.Test.YthedigbdkjcpfaaDoorPrintxsortroman
import Derived.Test.YthedigbdkjcpfaaDoorPrintf20
import Derived.Test.YthedigbdkjcpfaaDoorPrintf10
import Derived.Test.YthedigbdkjcpfaaDoorSortT
import Derived.Test.YthedigbdkjcpfaaDoorSortB
import Derived.Test.YthedigbdkjcpfaaDoorSortK
import Derived.Test.YthedigbdkjcpfaaDoorSortR
import Derived.Lib.ItoaLen
set_option linter.unusedSimpArgs false
namespace Go.Proofs.YthedigbdkjcpfaaDoor.SortL
open Go.RowKit Go.Proofs.YthedigbdkjcpfaaDoorW.PrintWords Go.Proofs.YthedigbdkjcpfaaDoor.Plain Go.Proofs.YthedigbdkjcpfaaDoor.Print Go.Proofs.YthedigbdkjcpfaaDoor.NumD
open Go.Lib (decDigits)
/-- a Roman number's bytes -/
def romB (n : Nat) : List UInt8 := match xsort_Roman.f (n : Int) with | some r => r.data.toList | none => []
theorem rom_b (n : Nat) (h1 : 1 ≤ n) (h2 : n ≤ 3999) : xsort_Roman.f (n : Int) = some (B (romB n)) ∧ (∀ c ∈ romB n, signs7.contains c = true) ∧ (romB n).length ≤ 100 ∧ romB n ≠ [] := by
  have := rom_all n h1 h2
  unfold romC at this
  unfold romB
  revert this
  cases hr : xsort_Roman.f (n : Int) with
  | none => intro h; cases h
  | some a =>
    intro h
    simp only [Bool.and_eq_true, decide_eq_true_eq, Bool.not_eq_true', List.isEmpty_eq_false_iff] at h
    exact ⟨by rw [show B a.data.toList = a from bytes_eq rfl], List.all_eq_true.1 h.1.1.1, h.1.1.2, h.1.2⟩
theorem rom_r (n : Nat) (h1 : 1 ≤ n) (h2 : n ≤ 3999) (k : Nat) (hk : 64 ≤ k) : stencilref13_Roman.f k (n : Int) = some (B (romB n)) := by
  obtain ⟨a, e1, e2⟩ := roman_same (n : Int)
  obtain ⟨e3, _⟩ := rom_b n h1 h2
  rw [e3] at e1
  obtain rfl := Option.some.inj e1
  exact liftK (f := fun k => stencilref13_Roman.f k (n : Int)) (stencilref13_Roman.mono _) e2 hk
def validF (F : List UInt8) : Bool := plB F || decide (F = [97]) || decide (F = [65]) || decide (F = [105]) || decide (F = [73])
/-- a number's text in a format -/
def txt (F : List UInt8) (n : Nat) : List UInt8 :=
  if F = [97] then lettersF 14 n else if F = [65] then Lib.toUpperA (lettersF 14 n)
  else if F = [105] then (if n ≤ 3999 then Lib.toLowerA (romB n) else decDigits n)
  else if F = [73] then (if n ≤ 3999 then romB n else decDigits n)
  else List.replicate (F.length - (decDigits n).length) 48 ++ decDigits n
theorem l14 {n : Nat} (h : n < 2305843009213693952) : n < 26 ^ 14 := by
  have : (26 : Nat) ^ 14 = 64509974703297150976 := by decide
  omega
theorem d19 {n : Nat} (h : n < 2305843009213693952) : n < 10 ^ (18 + 1) := by
  have : (10 : Nat) ^ (18 + 1) = 10000000000000000000 := by decide
  omega
theorem dlen {n : Nat} (h : n < 2305843009213693952) : (decDigits n).length ≤ 19 := (digits_ref 18 n 19 (d19 h) (by omega) (by omega) (by omega)).2
theorem let14 (n : Nat) (h : n < 2305843009213693952) : xsort_Letters.f 64 (n : Int) = some (B (lettersF 14 n)) := by
  have := letters_p 14 n 64 [] (l14 h) (by omega) (by omega) (by simp)
  rw [List.append_nil] at this
  exact this
theorem itoa_q (n : Nat) (h : n < 2305843009213693952) : strconv_Itoa.f (n : Int) = some (B (decDigits n)) := by
  unfold strconv_Itoa.f
  rw [if_pos ⟨by omega, by omega⟩, Lib.itoa_nonneg]
  rfl
theorem map_up (l : List UInt8) (h : ∀ c ∈ l, ∃ d, d < 26 ∧ c = UInt8.ofNat (97 + d)) : l.map (· - 32) = Lib.toUpperA l := by
  have key : (List.range 26).all (fun d => decide (UInt8.ofNat (97 + d) - 32 = Lib.upperB (UInt8.ofNat (97 + d)))) = true := by kernel_rfl
  unfold Lib.toUpperA
  refine List.map_congr_left fun c hc => ?_
  obtain ⟨d, hd, rfl⟩ := h c hc
  exact of_decide_eq_true (List.all_eq_true.1 key d (List.mem_range.2 hd))
theorem map_low (l : List UInt8) (h : ∀ c ∈ l, signs7.contains c = true) : l.map (· + 32) = Lib.toLowerA l := by
  have key : signs7.all (fun c => decide (c + 32 = Lib.lowerB c)) = true := by kernel_rfl
  unfold Lib.toLowerA
  refine List.map_congr_left fun c hc => ?_
  exact of_decide_eq_true (List.all_eq_true.1 key c (List.contains_iff_mem.1 (h c hc)))
theorem up_low (l : List UInt8) (h : ∀ c ∈ l, signs7.contains c = true) : Lib.toUpperA (Lib.toLowerA l) = l := by
  have key : signs7.all (fun c => decide (Lib.upperB (Lib.lowerB c) = c)) = true := by kernel_rfl
  unfold Lib.toUpperA Lib.toLowerA
  rw [List.map_map]
  refine map_same _ _ fun c hc => ?_
  exact of_decide_eq_true (List.all_eq_true.1 key c (List.contains_iff_mem.1 (h c hc)))
theorem let_asc {f n : Nat} {c : UInt8} (h : c ∈ lettersF f n) : c.toNat < 128 := by
  obtain ⟨d, hd, rfl⟩ := letter_all f n c h
  have : (UInt8.ofNat (97 + d)).toNat = 97 + d := by simp; omega
  omega
theorem low_asc {l : List UInt8} (h : ∀ c ∈ l, signs7.contains c = true) : ∀ c ∈ Lib.toLowerA l, c.toNat < 128 := by
  intro c hc
  unfold Lib.toLowerA at hc
  obtain ⟨d, hd, rfl⟩ := List.mem_map.1 hc
  exact (sign_of (h d hd)).1
theorem rep_ll : ∀ m : Nat, Lib.repeatL [48] m = List.replicate m 48
  | 0 => rfl
  | m + 1 => by rw [Lib.repeatL, rep_ll m]; rfl
/-- the program's Format, at numbers from 1 on -/
theorem form_p (F : List UInt8) (hz : F.length ≤ 200) (hv : validF F = true) (n : Nat) (h1 : 1 ≤ n) (h2 : n < 2305843009213693952) : xsort_Format.f 64 (n : Int) (B F) = some (B (txt F n), 0) := by
  have hn : ¬ (n : Int) < 1 := by omega
  unfold xsort_Format.f txt
  rw [BL]
  by_cases h97 : F = [97]
  · rw [if_pos h97, if_pos h97, let14 n h2, obind]
    unfold xsort_Format.endF
    rw [if_neg hn]
  · rw [if_neg h97, if_neg h97]
    by_cases h65 : F = [65]
    · have hl := letters_len 14 n
      rw [if_pos h65, if_pos h65, let14 n h2, obind]
      unfold xsort_Format.endU
      rw [if_neg hn, upper_p _ (by omega) (fun c hc => let_asc hc), obind]
    · rw [if_neg h65, if_neg h65]
      have hrom : ∀ (t : List UInt8), t = (if n ≤ 3999 then Lib.toLowerA (romB n) else decDigits n) → ∃ q s : List UInt8, xsort_Roman.f (n : Int) = some (B q) ∧ strings_ToLower.f (B q) = some (B s) ∧ (if s = [] then decDigits n else s) = t := by
        intro t ht
        by_cases hb : n ≤ 3999
        · obtain ⟨r1, r2, r3, r4⟩ := rom_b n h1 hb
          refine ⟨romB n, Lib.toLowerA (romB n), r1, lower_p _ (by omega) (fun c hc => (sign_of (r2 c hc)).2.1), ?_⟩
          rw [ht, if_pos hb, if_neg]
          intro h
          unfold Lib.toLowerA at h
          exact r4 (List.map_eq_nil_iff.1 h)
        · refine ⟨[], [], ?_, lower_p [] (by simp) (fun c hc => by cases hc), ?_⟩
          · unfold xsort_Roman.f
            rw [if_neg (by omega), if_pos (by omega)]
            rfl
          · rw [ht, if_neg hb, if_pos rfl]
      by_cases h105 : F = [105]
      · rw [if_pos h105, if_pos h105]
        obtain ⟨q, s, e1, e2, e3⟩ := hrom _ rfl
        rw [e1, obind, e2, obind, BL, ← e3]
        unfold xsort_Format.endF
        by_cases h0 : s = []
        · rw [if_pos h0, if_pos h0, itoa_q n h2, obind, if_neg hn]
        · rw [if_neg h0, if_neg h0, if_neg hn]
      · rw [if_neg h105, if_neg h105]
        by_cases h73 : F = [73]
        · rw [if_pos h73, if_pos h73]
          obtain ⟨q, s, e1, e2, e3⟩ := hrom _ rfl
          have hd : ∀ c ∈ decDigits n, isD c := dec_d n
          have hup : strings_ToUpper.f (B (if s = [] then decDigits n else s)) = some (B (if n ≤ 3999 then romB n else decDigits n)) := by
            rw [e3]
            by_cases hb : n ≤ 3999
            · obtain ⟨r1, r2, r3, r4⟩ := rom_b n h1 hb
              have hll : (Lib.toLowerA (romB n)).length = (romB n).length := by unfold Lib.toLowerA; rw [List.length_map]
              rw [if_pos hb, if_pos hb, upper_p _ (by omega) (low_asc r2), up_low _ r2]
            · have := dlen h2
              rw [if_neg hb, if_neg hb, upper_p _ (by omega) (fun c hc => isD_ascii (hd c hc)), upper_id (fun c hc => by have := hd c hc; unfold isD at this; omega)]
          rw [e1, obind, e2, obind, BL]
          unfold xsort_Format.endU
          by_cases h0 : s = []
          · rw [if_pos h0] at hup
            rw [if_pos h0, itoa_q n h2, obind, if_neg hn, hup, obind]
          · rw [if_neg h0] at hup
            rw [if_neg h0, if_neg hn, hup, obind]
        · have hp : plB F = true := by
            unfold validF at hv
            simpa [h97, h65, h105, h73] using hv
          have hl := dlen h2
          have hw : wrap64 (((B F).size : Int) - ((B (decDigits n)).size : Int)) = ((F.length : Int) - ((decDigits n).length : Int)) := by
            rw [B_size, B_size, w64s] <;> omega
          have hm : mx ((F.length : Int) - ((decDigits n).length : Int)) 0 = ((F.length - (decDigits n).length : Nat) : Int) := by
            unfold mx
            split <;> omega
          have hr : strings_Repeat.f (⟨#[48]⟩ : ByteArray) ((F.length - (decDigits n).length : Nat) : Int) = some (B (List.replicate (F.length - (decDigits n).length) 48)) := by
            unfold strings_Repeat.f
            have e1 : (⟨#[48]⟩ : ByteArray).size = 1 := rfl
            rw [if_pos ⟨by omega, by omega, by rw [e1, Int.toNat_natCast]; omega⟩, Int.toNat_natCast]
            show some (B (Lib.repeatL [48] _)) = _
            rw [rep_ll]
          rw [if_neg h73, if_neg h73, plain_prog, hp, obind, if_pos rfl, itoa_q n h2, obind, hw, hm, hr, obind, B_size, B_size, if_pos (by rw [List.length_replicate]; omega), B_append]
          unfold xsort_Format.endF
          rw [if_neg hn]
end Go.Proofs.YthedigbdkjcpfaaDoor.SortL
