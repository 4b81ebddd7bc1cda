/- A number as a text, and what a text says, without Go and memory. -/
import Derived.Test.YthedigbdkjcpfaaGreatDoorPrintf16
import Derived.Test.YthedigbdkjcpfaaGreatDoorPrintf5
import Derived.Test.YthedigbdkjcpfaaGreatDoorPrintlibformatuint
import Derived.Test.YthedigbdkjcpfaaGreatDoorPrintlibtrimright
import Derived.Test.YthedigbdkjcpfaaGreatDoorPrintxnumparse
import Derived.Test.YthedigbdkjcpfaaGreatDoorPrintf28
import Derived.Test.YthedigbdkjcpfaaGreatDoorNumB
import Derived.Test.YthedigbdkjcpfaaGreatDoorNumD
namespace Go.Proofs.YthedigbdkjcpfaaGreatDoor.NumT
open Go.RowKit Go.Proofs.YthedigbdkjcpfaaGreatDoorW.PrintWords Go.Proofs.YthedigbdkjcpfaaGreatDoor.Plain Go.Proofs.YthedigbdkjcpfaaGreatDoor.Print Go.Proofs.YthedigbdkjcpfaaGreatDoor.NumO Go.Proofs.YthedigbdkjcpfaaGreatDoor.NumA Go.Proofs.YthedigbdkjcpfaaGreatDoor.NumD
open Go.Lib (decDigits trimRightS trimS)
set_option linter.unusedVariables false
theorem parts_b (k s : Int) (h : -9223372036854775808 < s) (h2 : s < 9223372036854775808) : xnum_parts.f k s = some ((s.natAbs : Int), decide (s < 0)) := by
  unfold xnum_parts.f
  by_cases h1 : s < 0
  · rw [if_pos h1, wu, wu]
    simp only [h1, decide_true]
    congr 2
    omega
  · rw [if_neg h1, wu]
    simp only [h1, decide_false]
    congr 2
    omega
theorem dec_len : ∀ (m u : Nat), u < 10 ^ (m + 1) → (decDigits u).length ≤ m + 1
  | m, u, h => by
    rw [decDigits]
    split
    · simp
    · rename_i hu
      cases m with
      | zero => omega
      | succ m =>
        have ih := dec_len m (u / 10) (by rw [Nat.pow_succ] at h; omega)
        simp
        omega
theorem bytes_eq {a b : ByteArray} (h : a.data.toList = b.data.toList) : a = b := by
  cases a; cases b
  congr 1
  exact Array.ext' h
theorem format_f (u : Nat) (h : u < 18446744073709551616) : strconv_FormatUint.f (u : Int) 10 = some ⟨(decDigits u).toArray⟩ := by
  unfold strconv_FormatUint.f
  rw [if_pos ⟨rfl, Int.natCast_nonneg _, by omega⟩, Int.toNat_natCast]
theorem six_f (n : Nat) (h : n ≤ 1000000000000000000) : xnum_six.f (n : Int) = some ⟨(six (n % 1000000)).toArray⟩ := by
  unfold xnum_six.f
  have e : IntKind.u64.wrap (1000000 + Int.tmod (n : Int) 1000000) = ((1000000 + n % 1000000 : Nat) : Int) := by
    rw [Int.tmod_eq_emod_of_nonneg (Int.natCast_nonneg _), wu]
    omega
  have hr : n % 1000000 < 1000000 := Nat.mod_lt _ (by decide)
  rw [e, format_f _ (by omega), obind, dec_six _ hr]
  have c1 : (1 : Int) ≤ ((⟨(49 :: six (n % 1000000)).toArray⟩ : ByteArray).size : Int) := by
    show (1 : Int) ≤ (((49 :: six (n % 1000000)).toArray.size : Nat) : Int)
    simp
    omega
  rw [if_pos c1]
  congr 1
def fracL (r : Nat) : List UInt8 := trimRightS (six r) [48]
theorem frac_le (r : Nat) : (fracL r).length ≤ 6 := by
  obtain ⟨m, hm⟩ := trim_back (six r)
  have := congrArg List.length hm
  rw [List.length_append] at this
  have e : (six r).length = 6 := rfl
  unfold fracL
  omega
theorem trimr_f (l : List UInt8) (_ : l.length ≤ 100) : strings_TrimRight.f ⟨l.toArray⟩ (⟨#[48]⟩ : ByteArray) = some ⟨(trimRightS l [48]).toArray⟩ := by
  unfold strings_TrimRight.f
  have hs : (⟨l.toArray⟩ : ByteArray).size = l.length := by show l.toArray.size = _; simp
  rw [if_pos ⟨by omega, by decide, by decide⟩]
def textL (v : Int) : List UInt8 := (if v < 0 then [45] else []) ++ (decDigits (v.natAbs / 1000000) ++ (if fracL (v.natAbs % 1000000) = [] then [] else 46 :: fracL (v.natAbs % 1000000)))
theorem size_mk (l : List UInt8) : (⟨l.toArray⟩ : ByteArray).size = l.length := by show l.toArray.size = _; simp
theorem text_f {v : Int} (h : -1000000000000000000 ≤ v ∧ v ≤ 1000000000000000000) : xnum_Text.f 0 v = some ⟨(textL v).toArray⟩ := by
  unfold xnum_Text.f
  have hn : v.natAbs ≤ 1000000000000000000 := by omega
  have e1 : IntKind.u64.wrap (Int.tdiv (v.natAbs : Int) 1000000) = ((v.natAbs / 1000000 : Nat) : Int) := by
    rw [Int.tdiv_eq_ediv_of_nonneg (Int.natCast_nonneg _), wu]
    omega
  have l1 : (decDigits (v.natAbs / 1000000)).length ≤ 20 := dec_len 19 _ (by omega)
  have l2 := frac_le (v.natAbs % 1000000)
  rw [if_neg (by decide), if_neg (by decide), if_pos rfl, parts_b 0 v (by omega) (by omega), obind]
  simp only
  rw [e1, format_f _ (by omega), obind, six_f _ hn, obind, trimr_f _ (by show 6 ≤ 100; decide), obind]
  have e2 : trimRightS (six (v.natAbs % 1000000)) [48] = fracL (v.natAbs % 1000000) := rfl
  rw [e2]
  unfold textL
  generalize fracL (v.natAbs % 1000000) = fr at *
  generalize decDigits (v.natAbs / 1000000) = dg at *
  have t1 : (⟨fr.toArray⟩ : ByteArray).toList = fr := by rw [Lib.toList_data]
  rw [t1, size_mk, size_mk]
  have b45 : (⟨#[45]⟩ : ByteArray) = ⟨([45] : List UInt8).toArray⟩ := rfl
  have b46 : (⟨#[46]⟩ : ByteArray) = ⟨([46] : List UInt8).toArray⟩ := rfl
  have app : ∀ a b : List UInt8, (⟨a.toArray⟩ : ByteArray) ++ ⟨b.toArray⟩ = ⟨(a ++ b).toArray⟩ := fun a b => bytes_eq (by simp)
  rw [b45, b46]
  by_cases hf : fr = []
  · rw [if_pos hf, if_pos hf]
    by_cases hv : v < 0
    · rw [if_pos (by simpa using hv), if_pos (by omega), if_pos hv, app]
      simp
    · rw [if_neg (by simpa using hv), if_neg hv]
      simp
  · rw [if_neg hf, if_neg hf, if_pos (by omega), if_pos (by omega)]
    by_cases hv : v < 0
    · rw [if_pos (by simpa using hv), if_pos (by omega), if_pos hv, app, app, app]
      simp
    · rw [if_neg (by simpa using hv), if_neg hv, app, app]
      simp
theorem fin_b (n : Nat) (b : Bool) (h : n ≤ 1000000000000000000) : xnum_fin.f (n : Int) b = some (0, if b then -(n : Int) else (n : Int)) := by
  unfold xnum_fin.f
  have e : wrap64 (n : Int) = n := w64 (by omega) (by omega)
  have e2 : wrap64 (-(n : Int)) = -n := w64 (by omega) (by omega)
  rw [if_neg (by omega)]
  cases b
  · simp [e]
  · simp [e, e2]
theorem frac_d (r : Nat) : ∀ c ∈ fracL r, isD c := by
  intro c hc
  obtain ⟨m, hm⟩ := trim_back (six r)
  refine six_d r c ?_
  rw [hm]
  exact List.mem_append.2 (Or.inl hc)
theorem frac_back (r : Nat) : (fracL r ++ [48, 48, 48, 48, 48, 48]).take 6 = six r := by
  obtain ⟨m, hm⟩ := trim_back (six r)
  have e : (six r).length = 6 := rfl
  have hl := congrArg List.length hm
  rw [List.length_append, List.length_replicate, e] at hl
  have e2 : ([48, 48, 48, 48, 48, 48] : List UInt8) = List.replicate m 48 ++ List.replicate (6 - m) 48 := by
    rw [List.replicate_append_replicate, show m + (6 - m) = 6 by omega]
    rfl
  have e3 : fracL r = trimRightS (six r) [48] := rfl
  rw [e2, ← List.append_assoc, e3, ← hm, List.take_append_of_le_length (by rw [e]; exact Nat.le_refl 6), ← e, List.take_length]
def coreL (n : Nat) : List UInt8 := decDigits (n / 1000000) ++ (if fracL (n % 1000000) = [] then [] else 46 :: fracL (n % 1000000))
theorem cut_core (n : Nat) : (Lib.cut (coreL n) [46]).1 = decDigits (n / 1000000) ∧ (Lib.cut (coreL n) [46]).2.1 = fracL (n % 1000000) := by
  unfold coreL
  by_cases h : fracL (n % 1000000) = []
  · rw [if_pos h, List.append_nil, cut_none (fun c hc => (d_digit (dec_d _ c hc)).2.2.2), h]
    exact ⟨rfl, rfl⟩
  · rw [if_neg h, cut_at _ (fun c hc => (d_digit (dec_d _ c hc)).2.2.2)]
    exact ⟨rfl, rfl⟩
theorem parse_core (n : Nat) (b : Bool) (h : n ≤ 1000000000000000000) : parseC (coreL n) b = some (0, if b then -(n : Int) else (n : Int)) := by
  unfold parseC
  obtain ⟨c1, c2⟩ := cut_core n
  rw [c1, c2]
  obtain ⟨d, l, hd⟩ := dec_ne (n / 1000000)
  have n1 : ¬ decDigits (n / 1000000) ++ fracL (n % 1000000) = [] := by rw [hd]; simp
  have n2 : trimS (decDigits (n / 1000000) ++ fracL (n % 1000000)) [48, 49, 50, 51, 52, 53, 54, 55, 56, 57] = [] := by
    refine trim_all fun c hc => ?_
    rcases List.mem_append.1 hc with h1 | h1
    · exact (d_digit (dec_d _ c h1)).1
    · exact (d_digit (frac_d _ c h1)).1
  rw [if_neg n1, if_pos n2, frac_back, Lib.parseUintB_64]
  have n3 : ¬ decDigits (n / 1000000) ++ six (n % 1000000) = [] := by rw [hd]; simp
  have hv : valD 0 (decDigits (n / 1000000) ++ six (n % 1000000)) = n := by
    rw [valD_append, dec_val, six_val _ _ (Nat.mod_lt _ (by decide))]
    omega
  have hp := parse_ok (decDigits (n / 1000000) ++ six (n % 1000000)) 0 (fun c hc => by
    rcases List.mem_append.1 hc with h1 | h1
    · exact dec_d _ c h1
    · exact six_d _ c h1) (by rw [hv]; exact h)
  rw [hv] at hp
  unfold Lib.parseMag
  rw [if_neg n3, hp]
  exact fin_b n b h
theorem core_no (n : Nat) : ∀ c ∈ coreL n, ([9, 10, 13, 32] : List UInt8).contains c = false := by
  intro c hc
  unfold coreL at hc
  rcases List.mem_append.1 hc with h1 | h1
  · exact (d_digit (dec_d _ c h1)).2.1
  · split at h1
    · simp at h1
    · rcases List.mem_cons.1 h1 with rfl | h2
      · decide
      · exact (d_digit (frac_d _ c h2)).2.1
theorem core_len (n : Nat) (h : n ≤ 1000000000000000000) : (coreL n).length ≤ 40 := by
  have l1 : (decDigits (n / 1000000)).length ≤ 20 := dec_len 19 _ (by omega)
  have l2 := frac_le (n % 1000000)
  unfold coreL
  split
  · simp; omega
  · simp; omega
theorem parse_text {v : Int} (h : -1000000000000000000 ≤ v ∧ v ≤ 1000000000000000000) : xnum_Parse.f ⟨(textL v).toArray⟩ = some (0, v) := by
  have hn : v.natAbs ≤ 1000000000000000000 := by omega
  have hl := core_len v.natAbs hn
  have hno := core_no v.natAbs
  have hp := parse_core v.natAbs
  have et : textL v = (if v < 0 then [45] else []) ++ coreL v.natAbs := rfl
  have hfirst : ∃ c l, coreL v.natAbs = c :: l ∧ c ≠ 45 := by
    obtain ⟨c, l, hc⟩ := dec_ne (v.natAbs / 1000000)
    refine ⟨c, l ++ (if fracL (v.natAbs % 1000000) = [] then [] else 46 :: fracL (v.natAbs % 1000000)), by unfold coreL; rw [hc]; rfl, ?_⟩
    exact (d_digit (dec_d _ c (by rw [hc]; simp))).2.2.1
  unfold xnum_Parse.f
  rw [et]
  generalize coreL v.natAbs = k at *
  obtain ⟨c, l, hk, hc⟩ := hfirst
  have ed : ∀ x : List UInt8, (⟨x.toArray⟩ : ByteArray).data.toList = x := fun x => rfl
  rw [ed, size_mk]
  by_cases hv : v < 0
  · rw [if_pos hv, List.singleton_append, if_pos (by simp; omega)]
    have t1 : trimS (45 :: k) [9, 10, 13, 32] = 45 :: k := trim_none (fun x hx => by
      rcases List.mem_cons.1 hx with rfl | h2
      · decide
      · exact hno x h2)
    rw [t1]
    have p1 : Lib.hasPrefix (45 :: k) [45] = true := by simp [Lib.hasPrefix, List.isPrefixOf]
    have p2 : Lib.trimPrefix (45 :: k) [45] = k := by unfold Lib.trimPrefix; rw [if_pos p1]; rfl
    rw [p1, p2, hp true hn]
    simp only [if_true, Option.some.injEq, Prod.mk.injEq, true_and]
    omega
  · rw [if_neg hv, List.nil_append, if_pos (by omega)]
    have t1 : trimS k [9, 10, 13, 32] = k := trim_none hno
    rw [t1]
    have p1 : Lib.hasPrefix k [45] = false := by rw [hk]; simpa [Lib.hasPrefix, List.isPrefixOf] using Ne.symm hc
    have p2 : Lib.trimPrefix k [45] = k := by unfold Lib.trimPrefix; rw [p1]; rfl
    rw [p1, p2, hp false hn]
    simp only [Bool.false_eq_true, if_false, Option.some.injEq, Prod.mk.injEq, true_and]
    omega
end Go.Proofs.YthedigbdkjcpfaaGreatDoor.NumT
