/- XsortBack, without Go and memory. -/
import Derived.Test.YthedigbdkjcpfaaDoorPrintf8
import Derived.Test.YthedigbdkjcpfaaDoorPrintf10
import Derived.Test.YthedigbdkjcpfaaDoorPrintxsortformat
import Derived.Test.YthedigbdkjcpfaaDoorPrintf21
import Derived.Test.YthedigbdkjcpfaaDoorPrintxsortguess
import Derived.Test.YthedigbdkjcpfaaDoorPrintf33
import Derived.Test.YthedigbdkjcpfaaDoorPrintf13
import Derived.Test.YthedigbdkjcpfaaDoorPrintxsortroman
import Derived.Test.YthedigbdkjcpfaaDoorSortB
import Derived.Test.YthedigbdkjcpfaaDoorSortK
set_option linter.unusedSimpArgs false
namespace Go.Proofs.YthedigbdkjcpfaaDoor.Pure
open Go.RowKit Go.Proofs.YthedigbdkjcpfaaDoorW.PrintWords Go.Proofs.YthedigbdkjcpfaaDoor.Plain Go.Proofs.YthedigbdkjcpfaaDoor.Print Go.Proofs.YthedigbdkjcpfaaDoor.SortL Go.Proofs.YthedigbdkjcpfaaDoor.NumD
open Go.Lib (decDigits)
theorem live_b : stencillaw13_live.f 64 = some true := by kernel_rfl
/-- what holds of a number in a format -/
def Goes (fmt : List UInt8) (n : Nat) : Prop := ∃ s, xsort_Format.f 64 (n : Int) (B fmt) = some (s, 0) ∧ xsort_guess.f s (B fmt) = some (n : Int)
theorem B_toList (l : List UInt8) : (B l).toList = l := by rw [Lib.toList_data]; rfl
theorem lt_of (n : Nat) (h : 1 ≤ n) : ¬ (n : Int) < 1 := by omega
theorem letters_ne0 (n : Nat) (h : 1 ≤ n) : lettersF 9 n ≠ [] := by
  obtain ⟨l, e⟩ := letters_last 8 n h
  rw [e]
  simp
theorem let_fact {c : UInt8} {f n : Nat} (hc : c ∈ lettersF f n) : c.toNat < 128 ∧ 97 ≤ c.toNat ∧ digs.contains c = false ∧ Lib.lowerB (Lib.upperB c) = c ∧ (Lib.upperB c).toNat < 128 ∧ digs.contains (Lib.upperB c) = false := by
  obtain ⟨d, hd, rfl⟩ := letter_all f n c hc
  have := List.all_eq_true.1 low_up d (List.mem_range.2 hd)
  simp only [Bool.and_eq_true, decide_eq_true_eq, Bool.not_eq_true'] at this
  obtain ⟨⟨⟨h1, h2⟩, h3⟩, h4⟩ := this
  have e : (UInt8.ofNat (97 + d)).toNat = 97 + d := by simp; omega
  exact ⟨by rw [e]; omega, by rw [e]; omega, h4, h1, h2, h3⟩
theorem let_f (n : Nat) (h : n ≤ 1000000000) : xsort_Letters.f 64 (n : Int) = some (B (lettersF 9 n)) := by
  have := letters_p 9 n 64 [] (letters_lt h) (by omega) (by omega) (by simp)
  rw [List.append_nil] at this
  exact this
theorem goes_a (n : Nat) (h1 : 1 ≤ n) (h2 : n ≤ 1000000000) : Goes [97] n := by
  refine ⟨B (lettersF 9 n), ?_, ?_⟩
  · unfold xsort_Format.f
    rw [B_toList, if_pos rfl, let_f n h2, obind]
    unfold xsort_Format.endF
    rw [if_neg (lt_of n h1)]
  · have hl := letters_len 9 n
    rw [guess_let (lettersF 9 n) [97] (by omega) (fun c hc => (let_fact hc).1) (.inr (.inl rfl)) (by decide) (by decide), lower_id (fun c hc => by have := (let_fact hc).2.1; omega)]
    have hb := back_letters 9 n [] (letters_lt h2) h2 (fun c hc => by cases hc)
    simp only [List.append_nil, List.length_nil, Nat.add_zero] at hb
    rw [guessL_more _ 9 _ 0 (Nat.le_refl _) hl (fun c hc => (let_fact hc).1), hb, guessL_nil]
theorem low_up_l (l : List UInt8) (h : ∀ c ∈ l, Lib.lowerB (Lib.upperB c) = c) : Lib.toLowerA (Lib.toUpperA l) = l := by
  unfold Lib.toLowerA Lib.toUpperA
  rw [List.map_map]
  conv => rhs; rw [← List.map_id l]
  exact List.map_congr_left fun c hc => h c hc
theorem goes_A (n : Nat) (h1 : 1 ≤ n) (h2 : n ≤ 1000000000) : Goes [65] n := by
  have hl := letters_len 9 n
  refine ⟨B (Lib.toUpperA (lettersF 9 n)), ?_, ?_⟩
  · unfold xsort_Format.f
    rw [B_toList, if_neg (by decide), if_pos rfl, let_f n h2, obind]
    unfold xsort_Format.endU
    rw [if_neg (lt_of n h1), upper_p _ (by omega) (fun c hc => (let_fact hc).1), obind]
  · have ha : ∀ c ∈ Lib.toUpperA (lettersF 9 n), c.toNat < 128 := by
      intro c hc
      unfold Lib.toUpperA at hc
      obtain ⟨d, hd, rfl⟩ := List.mem_map.1 hc
      exact (let_fact hd).2.2.2.2.1
    have hlu : (Lib.toUpperA (lettersF 9 n)).length ≤ 9 := by unfold Lib.toUpperA; rw [List.length_map]; exact hl
    rw [guess_let _ [65] (by omega) ha (.inr (.inr rfl)) (by decide) (by decide), low_up_l _ (fun c hc => (let_fact hc).2.2.2.1)]
    have hb := back_letters 9 n [] (letters_lt h2) h2 (fun c hc => by cases hc)
    simp only [List.append_nil, List.length_nil, Nat.add_zero] at hb
    rw [guessL_more _ 9 _ 0 (Nat.le_refl _) hl (fun c hc => (let_fact hc).1), hb, guessL_nil]
theorem dig_len (n : Nat) (h : n ≤ 1000000000) : (decDigits n).length ≤ 20 := by
  have : ∀ (m u : Nat), u < 10 ^ (m + 1) → (decDigits u).length ≤ m + 1 := by
    intro m
    induction m with
    | zero => intro u hu; rw [decDigits, dif_pos (by omega)]; simp
    | succ m ih =>
      intro u hu
      by_cases h : u < 10
      · rw [decDigits, dif_pos h]; simp
      · rw [decDigits, dif_neg h, List.length_append]
        have := ih (u / 10) (by rw [Nat.pow_succ] at hu; generalize 10 ^ (m + 1) = q at *; omega)
        simp only [List.length_cons, List.length_nil]
        omega
  exact this 19 n (by omega)
theorem rom_big (n : Int) (h : n > 3999) : xsort_Roman.f n = some (B []) := by
  unfold xsort_Roman.f
  rw [if_neg (by omega), if_pos h]
  rfl
theorem goes_i (up : Bool) (n : Nat) (h1 : 1 ≤ n) (h2 : n ≤ 1000000000) : Goes (if up then [73] else [105]) n := by
  have hfmt : (if up then [73] else [105] : List UInt8) ≠ [97] ∧ (if up then [73] else [105] : List UInt8) ≠ [65] ∧ ((if up then [73] else [105] : List UInt8) = [105] ∨ (if up then [73] else [105] : List UInt8) = [73]) := by cases up <;> decide
  have hform : ∀ (q s : List UInt8) (t : List UInt8), xsort_Roman.f (n : Int) = some (B q) → strings_ToLower.f (B q) = some (B s) → (t = if s = [] then decDigits n else s) → t.length ≤ 1000 → (∀ c ∈ t, c.toNat < 128) →
      xsort_Format.f 64 (n : Int) (B (if up then [73] else [105])) = some (B (if up then Lib.toUpperA t else t), 0) := by
    intro q s t hq hs ht hlt ha
    have hi := itoa_p n h2
    unfold xsort_Format.f
    rw [B_toList, if_neg hfmt.1, if_neg hfmt.2.1]
    cases up
    · rw [if_pos (show (if false = true then [73] else [105] : List UInt8) = [105] from rfl), hq, obind, hs, obind, B_toList]
      by_cases h0 : s = []
      · rw [if_pos h0] at ht
        rw [if_pos h0, hi, obind, ← ht]
        unfold xsort_Format.endF
        rw [if_neg (lt_of n h1)]
        rfl
      · rw [if_neg h0] at ht
        rw [if_neg h0, ← ht]
        unfold xsort_Format.endF
        rw [if_neg (lt_of n h1)]
        rfl
    · rw [if_neg (show ¬ (if true = true then [73] else [105] : List UInt8) = [105] by decide), if_pos (show (if true = true then [73] else [105] : List UInt8) = [73] from rfl), hq, obind, hs, obind, B_toList]
      by_cases h0 : s = []
      · rw [if_pos h0] at ht
        rw [if_pos h0, hi, obind, ← ht]
        unfold xsort_Format.endU
        rw [if_neg (lt_of n h1), upper_p t (by omega) ha, obind]
        rfl
      · rw [if_neg h0] at ht
        rw [if_neg h0, ← ht]
        unfold xsort_Format.endU
        rw [if_neg (lt_of n h1), upper_p t (by omega) ha, obind]
        rfl
  by_cases hb : n > 3999
  · have hd : ∀ c ∈ decDigits n, isD c := dec_d n
    have hl := dig_len n h2
    have h := hform [] [] (decDigits n) (rom_big _ (by omega)) (lower_p [] (by simp) (fun c hc => by cases hc)) (by rw [if_pos rfl]) (by omega) (fun c hc => isD_ascii (hd c hc))
    have hup : (if up then Lib.toUpperA (decDigits n) else decDigits n) = decDigits n := by
      cases up
      · rfl
      · exact upper_id (fun c hc => by have := hd c hc; unfold isD at this; omega)
    rw [hup] at h
    refine ⟨_, h, ?_⟩
    obtain ⟨c, l, hc⟩ := dec_ne n
    exact guess_digs _ _ n (by rw [hc]; simp) (by omega) hd (dig_val n) (by omega) hfmt.1 hfmt.2.1
  · obtain ⟨r, hr, ha, hrl, ⟨o1, o2, o3, o4, o5, o6, o7, o8, o9⟩⟩ := rom_small n h1 (by omega)
    have h := hform r (Lib.toLowerA r) (Lib.toLowerA r) hr (lower_p r (by omega) ha) (by rw [if_neg o1]) (by omega) o2
    refine ⟨_, h, ?_⟩
    cases up
    · show xsort_guess.f (B (Lib.toLowerA r)) (B [105]) = _
      rw [guess_rom _ [105] (by omega) o2 o8 (.inl rfl), o5, o4]
    · show xsort_guess.f (B (Lib.toUpperA (Lib.toLowerA r))) (B [73]) = _
      have hlu : (Lib.toUpperA (Lib.toLowerA r)).length ≤ 100 := by
        have : (Lib.toUpperA (Lib.toLowerA r)).length = (Lib.toLowerA r).length := by unfold Lib.toUpperA; rw [List.length_map]
        omega
      rw [guess_rom _ [73] (by omega) o7 o9 (.inr rfl), o6, o4]
theorem rep_l : ∀ m : Nat, Lib.repeatL [48] m = List.replicate m 48
  | 0 => rfl
  | m + 1 => by rw [Lib.repeatL, rep_l m]; rfl
theorem goes_p (fmt : List UInt8) (hz : fmt.length ≤ 200) (n97 : fmt ≠ [97]) (n65 : fmt ≠ [65]) (n105 : fmt ≠ [105]) (n73 : fmt ≠ [73]) (hp : xsort_plain.f (B fmt) = some true) (n : Nat) (h1 : 1 ≤ n) (h2 : n ≤ 1000000000) : Goes fmt n := by
  have hd : ∀ c ∈ decDigits n, isD c := dec_d n
  have hl := dig_len n h2
  have hw : wrap64 (((B fmt).size : Int) - ((B (decDigits n)).size : Int)) = ((fmt.length : Int) - ((decDigits n).length : Int)) := by
    rw [B_size, B_size, w64] <;> omega
  obtain ⟨m, hm, hm2⟩ : ∃ m : Nat, mx ((fmt.length : Int) - ((decDigits n).length : Int)) 0 = (m : Int) ∧ m ≤ 200 := by
    unfold mx
    split
    · exact ⟨0, rfl, by omega⟩
    · exact ⟨((fmt.length : Int) - ((decDigits n).length : Int)).toNat, by omega, by omega⟩
  have hr : strings_Repeat.f (⟨#[48]⟩ : ByteArray) (m : Int) = some (B (List.replicate m 48)) := by
    unfold strings_Repeat.f
    have e1 : (⟨#[48]⟩ : ByteArray).size = 1 := rfl
    rw [if_pos ⟨by omega, by omega, by rw [e1, Int.toNat_natCast]; omega⟩, Int.toNat_natCast]
    show some (B (Lib.repeatL [48] m)) = _
    rw [rep_l]
  refine ⟨B (List.replicate m 48 ++ decDigits n), ?_, ?_⟩
  · unfold xsort_Format.f
    rw [B_toList, if_neg n97, if_neg n65, if_neg n105, if_neg n73, hp, obind, if_pos rfl, itoa_p n h2, obind, hw, hm, hr, obind, B_size, B_size, if_pos (by rw [List.length_replicate]; omega), B_append]
    unfold xsort_Format.endF
    rw [if_neg (lt_of n h1)]
  · obtain ⟨c, l, hc⟩ := dec_ne n
    refine guess_digs _ _ n (by rw [hc]; simp) (by rw [List.length_append, List.length_replicate]; omega) ?_ ?_ (by omega) n97 n65
    · intro x hx
      rcases List.mem_append.1 hx with h | h
      · rw [(List.mem_replicate.1 h).2]
        unfold isD
        decide
      · exact hd x h
    · rw [dig_app, dig_zero, dig_val]
theorem all_fmt (fmt : List UInt8) (hz : fmt.length ≤ 200) : (∀ n : Nat, 1 ≤ n → n ≤ 1000000000 → Goes fmt n) ∨ (∀ n : Int, xsort_Format.f 64 n (B fmt) = some ((⟨#[]⟩ : ByteArray), 18)) := by
  by_cases h97 : fmt = [97]
  · subst h97; exact .inl goes_a
  by_cases h65 : fmt = [65]
  · subst h65; exact .inl goes_A
  by_cases h105 : fmt = [105]
  · subst h105; exact .inl (goes_i false)
  by_cases h73 : fmt = [73]
  · subst h73; exact .inl (goes_i true)
  obtain ⟨p, hp⟩ : ∃ p, xsort_plain.f (B fmt) = some p := by
    unfold xsort_plain.f strings_TrimLeft.f
    rw [if_pos ⟨by decide, by decide⟩, obind]
    exact ⟨_, rfl⟩
  cases p
  · refine .inr fun n => ?_
    unfold xsort_Format.f
    rw [B_toList, if_neg h97, if_neg h65, if_neg h105, if_neg h73, hp, obind, if_neg (by decide)]
  · exact .inl (goes_p fmt hz h97 h65 h105 h73 hp)
theorem XsortBack (a : Int) (fmt : ByteArray) (w0 : (Lit.int .u32 a).wf = true) (_ : fmt.size ≤ 1048576) : ∃ k, stencillaw13_XsortBack.f k a fmt = some true := by
  refine ⟨64, ?_⟩
  have ha : 0 ≤ a ∧ a ≤ 4294967295 := by simpa [Lit.wf, IntKind.min, IntKind.max, IntKind.signed, IntKind.bits] using w0
  have e1 : wrap64 ((Int.tmod (wrap64 a) 1000000000) + 1) = a % 1000000000 + 1 := by
    rw [w64 (x := a) (by omega) (by omega), Int.tmod_eq_emod_of_nonneg ha.1, w64] <;> omega
  obtain ⟨n, hn⟩ : ∃ n : Nat, a % 1000000000 + 1 = (n : Int) := ⟨(a % 1000000000 + 1).toNat, by omega⟩
  have n1 : 1 ≤ n := by omega
  have n2 : n ≤ 1000000000 := by omega
  unfold stencillaw13_XsortBack.f
  rw [live_b, e1, hn]
  by_cases hz : (fmt.size : Int) > 200
  · rw [if_pos hz, obind]
  · rw [if_neg hz]
    have hB : fmt = B fmt.data.toList := bytes_eq rfl
    have hlen : fmt.data.toList.length = fmt.size := by rw [Array.length_toList]; rfl
    rw [hB]
    rcases all_fmt fmt.data.toList (by omega) with hall | hnone
    · obtain ⟨s, hs, hg⟩ := hall n n1 n2
      obtain ⟨s1, hs1, _⟩ := hall 1 (by omega) (by omega)
      have hread : xsort_Read.f 64 s (B fmt.data.toList) = some ((n : Int), 0) := by
        unfold xsort_Read.f
        have hs1' : xsort_Format.f 64 1 (B fmt.data.toList) = some (s1, 0) := hs1
        rw [hs1', obind]
        simp only
        rw [if_pos trivial, hg, obind, hs, obind]
        simp only
        rw [if_pos trivial, if_pos trivial, if_neg (by omega)]
      rw [hs, obind]
      simp only
      rw [if_pos trivial, hread, obind, obind, if_pos rfl]
      simp
    · rw [hnone, obind]
      simp only
      rw [if_neg (by decide), obind, if_pos rfl, if_pos trivial, Lib.toList_data]
      rfl
end Go.Proofs.YthedigbdkjcpfaaDoor.Pure
