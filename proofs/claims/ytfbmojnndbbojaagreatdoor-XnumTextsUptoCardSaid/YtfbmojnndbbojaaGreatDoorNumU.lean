/- The document's texts of numbers, without Go and memory. -/
import Derived.Test.YtfbmojnndbbojaaGreatDoorPrintf81
import Derived.Test.YtfbmojnndbbojaaGreatDoorNumT
namespace Go.Proofs.YtfbmojnndbbojaaGreatDoor.NumU
open Go.RowKit Go.Proofs.YtfbmojnndbbojaaGreatDoorW.PrintWords Go.Proofs.YtfbmojnndbbojaaGreatDoor.Plain Go.Proofs.YtfbmojnndbbojaaGreatDoor.Print Go.Proofs.YtfbmojnndbbojaaGreatDoor.NumO Go.Proofs.YtfbmojnndbbojaaGreatDoor.NumA Go.Proofs.YtfbmojnndbbojaaGreatDoor.NumD Go.Proofs.YtfbmojnndbbojaaGreatDoor.NumT
open Go.Lib (decDigits trimRightS trimS)
set_option linter.unusedVariables false
abbrev B (l : List UInt8) : ByteArray := ⟨l.toArray⟩
theorem app_B (a b : List UInt8) : B a ++ B b = B (a ++ b) := bytes_eq (by simp)
theorem size_B (l : List UInt8) : (B l).size = l.length := size_mk l
theorem bt_B (l : List UInt8) (i : Nat) (h : i < l.length) : bt (B l) (i : Int) = (l[i].toNat : Int) := by
  unfold bt
  rw [Int.toNat_natCast, dif_pos (by rw [size_B]; exact h)]
  rfl
theorem ext_B (l : List UInt8) (i j : Nat) : (B l).extract i j = B ((l.drop i).take (j - i)) := bytes_eq (by rw [Lib.extract_data])
/-- a digit's byte, as the document makes it -/
theorem one_byte (d : Nat) (h : d < 10) : strOfNums [IntKind.u64.wrap (48 + (d : Int)) % 256] = B [UInt8.ofNat (48 + d)] := by
  have e : IntKind.u64.wrap (48 + (d : Int)) % 256 = ((48 + d : Nat) : Int) := by rw [wu]; omega
  rw [e]
  have hd : d = 0 ∨ d = 1 ∨ d = 2 ∨ d = 3 ∨ d = 4 ∨ d = 5 ∨ d = 6 ∨ d = 7 ∨ d = 8 ∨ d = 9 := by omega
  rcases hd with rfl | rfl | rfl | rfl | rfl | rfl | rfl | rfl | rfl | rfl <;> rfl
theorem decimal_f : ∀ (m k n : Nat), n < 10 ^ (m + 1) → m < k → m ≤ 30 → n < 18446744073709551616 → stencilref02_decimal.f k (n : Int) = some (B (decDigits n))
  | m, k + 1, n, hn, hk, hm, h64 => by
    rw [stencilref02_decimal.f, decDigits]
    by_cases h : n < 10
    · rw [if_pos (by omega), dif_pos h, one_byte n h]
    · rw [if_neg (by omega), dif_neg h]
      have e1 : IntKind.u64.wrap (Int.tdiv (n : Int) 10) = ((n / 10 : Nat) : Int) := by rw [Int.tdiv_eq_ediv_of_nonneg (Int.natCast_nonneg _), wu]; omega
      have e2 : Int.tmod (n : Int) 10 = ((n % 10 : Nat) : Int) := by rw [Int.tmod_eq_emod_of_nonneg (Int.natCast_nonneg _)]; omega
      cases m with
      | zero => omega
      | succ m =>
        have ih := decimal_f m k (n / 10) (by rw [Nat.pow_succ] at hn; omega) (by omega) (by omega) (by omega)
        have hl : (decDigits (n / 10)).length ≤ m + 1 := dec_len m _ (by rw [Nat.pow_succ] at hn; omega)
        rw [e1, ih, obind, e2, obind, one_byte _ (Nat.mod_lt _ (by decide)), size_B, size_B, if_pos (by simp; omega), app_B]
theorem pad_six (r : Nat) (h : r < 1000000) : List.replicate (6 - (decDigits r).length) 48 ++ decDigits r = six r := by
  have st : ∀ u, ¬ u < 10 → decDigits u = decDigits (u / 10) ++ [UInt8.ofNat (48 + u % 10)] := fun u hu => by rw [decDigits, dif_neg hu]
  have one : ∀ u, u < 10 → decDigits u = [UInt8.ofNat (48 + u)] := fun u hu => Lib.decDigits_one hu
  by_cases h1 : r < 10
  · rw [one r h1]
    have e5 : r / 100000 % 10 = 0 := by omega
    have e4 : r / 10000 % 10 = 0 := by omega
    have e3 : r / 1000 % 10 = 0 := by omega
    have e2 : r / 100 % 10 = 0 := by omega
    have e1 : r / 10 % 10 = 0 := by omega
    have e0 : r % 10 = r := by omega
    unfold six
    rw [e5, e4, e3, e2, e1, e0]
    rfl
  · by_cases h2 : r < 100
    · rw [st r h1, one (r / 10) (by omega)]
      have e5 : r / 100000 % 10 = 0 := by omega
      have e4 : r / 10000 % 10 = 0 := by omega
      have e3 : r / 1000 % 10 = 0 := by omega
      have e2 : r / 100 % 10 = 0 := by omega
      have e1 : r / 10 % 10 = r / 10 := by omega
      unfold six
      rw [e5, e4, e3, e2, e1]
      rfl
    · by_cases h3 : r < 1000
      · rw [st r h1, st (r / 10) (by omega), one (r / 10 / 10) (by omega)]
        have e5 : r / 100000 % 10 = 0 := by omega
        have e4 : r / 10000 % 10 = 0 := by omega
        have e3 : r / 1000 % 10 = 0 := by omega
        have e2 : r / 100 % 10 = r / 10 / 10 := by omega
        unfold six
        rw [e5, e4, e3, e2]
        rfl
      · by_cases h4 : r < 10000
        · rw [st r h1, st (r / 10) (by omega), st (r / 10 / 10) (by omega), one (r / 10 / 10 / 10) (by omega)]
          have e5 : r / 100000 % 10 = 0 := by omega
          have e4 : r / 10000 % 10 = 0 := by omega
          have e3 : r / 1000 % 10 = r / 10 / 10 / 10 := by omega
          have e2 : r / 100 % 10 = r / 10 / 10 % 10 := by omega
          unfold six
          rw [e5, e4, e3, e2]
          rfl
        · by_cases h5 : r < 100000
          · rw [st r h1, st (r / 10) (by omega), st (r / 10 / 10) (by omega), st (r / 10 / 10 / 10) (by omega), one (r / 10 / 10 / 10 / 10) (by omega)]
            have e5 : r / 100000 % 10 = 0 := by omega
            have e4 : r / 10000 % 10 = r / 10 / 10 / 10 / 10 := by omega
            have e3 : r / 1000 % 10 = r / 10 / 10 / 10 % 10 := by omega
            have e2 : r / 100 % 10 = r / 10 / 10 % 10 := by omega
            unfold six
            rw [e5, e4, e3, e2]
            rfl
          · rw [st r h1, st (r / 10) (by omega), st (r / 10 / 10) (by omega), st (r / 10 / 10 / 10) (by omega), st (r / 10 / 10 / 10 / 10) (by omega), one (r / 10 / 10 / 10 / 10 / 10) (by omega)]
            have e5 : r / 100000 % 10 = r / 10 / 10 / 10 / 10 / 10 := by omega
            have e4 : r / 10000 % 10 = r / 10 / 10 / 10 / 10 % 10 := by omega
            have e3 : r / 1000 % 10 = r / 10 / 10 / 10 % 10 := by omega
            have e2 : r / 100 % 10 = r / 10 / 10 % 10 := by omega
            unfold six
            rw [e5, e4, e3, e2]
            rfl
theorem pad_loop : ∀ (t k : Nat) (l : List UInt8), l.length + t = 6 → t < k → stencilref02_places.l0 k (B l) = some (B (List.replicate t 48 ++ l))
  | 0, k + 1, l, hl, hk => by
    rw [stencilref02_places.l0, size_B, if_neg (by omega)]
    rfl
  | t + 1, k + 1, l, hl, hk => by
    have ih := pad_loop t k (48 :: l) (by simp; omega) (by omega)
    have b48 : (⟨#[48]⟩ : ByteArray) = B [48] := rfl
    rw [stencilref02_places.l0, size_B, if_pos (by omega), if_pos (by omega), b48, app_B]
    have e : List.replicate (t + 1) (48 : UInt8) ++ l = List.replicate t 48 ++ (48 :: l) := by rw [List.replicate_succ', List.append_assoc]; rfl
    rw [e]
    exact ih
theorem places_f (r k : Nat) (h : r < 1000000) (hk : 10 < k) : stencilref02_places.f k (r : Int) = some (B (six r)) := by
  unfold stencilref02_places.f
  have hl : (decDigits r).length ≤ 6 := dec_len 5 r (by omega)
  rw [decimal_f 5 k r (by omega) (by omega) (by omega) (by omega), obind, pad_loop (6 - (decDigits r).length) k _ (by omega) (by omega), pad_six r h]
theorem trimr_snoc (m : List UInt8) (c : UInt8) : trimRightS (m ++ [c]) [48] = if c = 48 then trimRightS m [48] else m ++ [c] := by
  unfold trimRightS
  rw [List.reverse_append, List.reverse_singleton, List.singleton_append, List.dropWhile_cons]
  by_cases h : c = 48
  · rw [if_pos h, if_pos (by subst h; decide)]
  · rw [if_neg h, if_neg (by simpa using h)]
    simp
theorem text_loop (x : ByteArray) (a v : Int) : ∀ (n : Nat) (l : List UInt8) (k : Nat), l.length = n → n < k → n ≤ 100 → stencilref02_Text.l0 (k + 1) x (B l) a v = stencilref02_Text.j1 1 x (B (trimRightS l [48])) a v
  | 0, l, k + 1, hl, hk, h1 => by
    obtain rfl : l = [] := List.length_eq_zero_iff.1 hl
    rw [stencilref02_Text.l0, size_B, if_neg (by simp)]
    rfl
  | n + 1, l, k + 1, hl, hk, h1 => by
    obtain ⟨m, c, rfl⟩ : ∃ m c, l = m ++ [c] := by
      have hne : l ≠ [] := by intro h; rw [h] at hl; simp at hl
      exact ⟨l.dropLast, l.getLast hne, (List.dropLast_concat_getLast hne).symm⟩
    have hm : m.length = n := by simpa using hl
    have ih := text_loop x a v n m k hm (by omega) (by omega)
    have e1 : wrap64 (((m ++ [c]).length : Int) - 1) = (m.length : Int) := by rw [hl, w64 (by omega) (by omega)]; omega
    have eb : bt (B (m ++ [c])) (m.length : Int) = (c.toNat : Int) := by
      rw [bt_B _ _ (by simp)]
      simp
    rw [stencilref02_Text.l0, size_B, e1, if_pos (by omega), if_pos (Int.natCast_nonneg _), if_pos (by omega), eb, trimr_snoc]
    by_cases hc : c = 48
    · rw [if_pos (by subst hc; rfl), if_pos (by omega), if_pos hc, Int.toNat_natCast, ext_B]
      have e2 : ((m ++ [c]).drop 0).take (m.length - 0) = m := by simp
      rw [e2]
      exact ih
    · have n48 : (48 : UInt8).toNat = 48 := rfl
      rw [if_neg (by intro h; exact hc (UInt8.toNat_inj.1 (by rw [n48]; omega))), if_neg hc]
      rfl
theorem rtext_f {v : Int} (h : -1000000000000000000 ≤ v ∧ v ≤ 1000000000000000000) (k : Nat) (hk : 60 < k) (hs : stencilref02_size.f 0 v = some (v.natAbs : Int)) : stencilref02_Text.f k 0 v = some (B (textL v)) := by
  unfold stencilref02_Text.f
  have hn : v.natAbs ≤ 1000000000000000000 := by omega
  have e1 : IntKind.u64.wrap (Int.tdiv (v.natAbs : Int) 1000000) = ((v.natAbs / 1000000 : Nat) : Int) := by
    rw [Int.tdiv_eq_ediv_of_nonneg (Int.natCast_nonneg _), wu]
    omega
  have e2 : Int.tmod (v.natAbs : Int) 1000000 = ((v.natAbs % 1000000 : Nat) : Int) := by
    rw [Int.tmod_eq_emod_of_nonneg (Int.natCast_nonneg _)]
    omega
  have l1 : (decDigits (v.natAbs / 1000000)).length ≤ 20 := dec_len 19 _ (by omega)
  have l2 := frac_le (v.natAbs % 1000000)
  obtain ⟨k', rfl⟩ : ∃ k', k = k' + 1 := ⟨k - 1, by omega⟩
  rw [if_neg (by decide), if_neg (by decide), if_pos rfl, hs, obind, e1, decimal_f 19 (k' + 1) _ (by omega) (by omega) (by omega) (by omega), obind, e2, places_f _ _ (Nat.mod_lt _ (by decide)) (by omega), obind, text_loop _ _ _ 6 _ k' rfl (by omega) (by omega)]
  have e3 : trimRightS (six (v.natAbs % 1000000)) [48] = fracL (v.natAbs % 1000000) := rfl
  rw [e3, stencilref02_Text.j1]
  unfold textL
  generalize fracL (v.natAbs % 1000000) = fr at *
  generalize decDigits (v.natAbs / 1000000) = dg at *
  have t1 : (B fr).toList = fr := by rw [Lib.toList_data]
  have b45 : (⟨#[45]⟩ : ByteArray) = B [45] := rfl
  have b46 : (⟨#[46]⟩ : ByteArray) = B [46] := rfl
  rw [t1, size_B, size_B, b45, b46]
  by_cases hf : fr = []
  · rw [if_pos hf, if_pos hf]
    by_cases hv : v < 0
    · rw [if_pos hv, if_pos (by omega), if_pos hv, app_B]
      simp
    · rw [if_neg hv, if_neg hv]
      simp
  · rw [if_neg hf, if_neg hf, if_pos (by omega), if_pos (by omega)]
    by_cases hv : v < 0
    · rw [if_pos hv, if_pos (by omega), if_pos hv, app_B, app_B, app_B]
      simp
    · rw [if_neg hv, if_neg hv, app_B, app_B]
      simp
end Go.Proofs.YtfbmojnndbbojaaGreatDoor.NumU
