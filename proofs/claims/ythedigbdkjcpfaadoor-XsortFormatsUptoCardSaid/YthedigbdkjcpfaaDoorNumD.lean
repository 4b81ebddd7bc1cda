/- Numerals as lists of bytes, without Go and memory. -/
import Derived.Lib.ItoaNum
import Derived.Lib.ParseIntBCases
import Derived.Lib.SlTrimSet
import Derived.Lib.IndexMore
import Derived.Lib.Strings
namespace Go.Proofs.YthedigbdkjcpfaaDoor.NumD
open Go.Lib
/-- a digit's byte -/
def isD (c : UInt8) : Prop := 48 ≤ c.toNat ∧ c.toNat ≤ 57
/-- what digits say, behind a number -/
def valD (a : Nat) (l : List UInt8) : Nat := l.foldl (fun a c => a * 10 + (c.toNat - 48)) a
theorem valD_nil (a : Nat) : valD a [] = a := by unfold valD; exact List.foldl_nil
theorem valD_cons (a : Nat) (c : UInt8) (l : List UInt8) : valD a (c :: l) = valD (a * 10 + (c.toNat - 48)) l := by unfold valD; exact List.foldl_cons
theorem valD_append (l m : List UInt8) (a : Nat) : valD a (l ++ m) = valD (valD a l) m := by
  unfold valD
  rw [List.foldl_append]
theorem valD_ge : ∀ (l : List UInt8) (a : Nat), a ≤ valD a l
  | [], a => Nat.le_refl _
  | c :: l, a => by
    have := valD_ge l (a * 10 + (c.toNat - 48))
    rw [valD_cons]
    omega
theorem parse_ok : ∀ (l : List UInt8) (a : Nat), (∀ c ∈ l, isD c) → valD a l ≤ 1000000000000000000 → parseUint10 a l = .ok (valD a l)
  | [], a, _, _ => rfl
  | c :: l, a, hd, h => by
    have h1 := hd c (by simp)
    have h2 := valD_ge l (a * 10 + (c.toNat - 48))
    rw [valD_cons] at h ⊢
    rw [parseUint10, if_pos (show 48 ≤ c.toNat ∧ c.toNat ≤ 57 from h1), if_neg (by omega), if_neg (by omega)]
    exact parse_ok l _ (fun x hx => hd x (by simp [hx])) h
theorem byte_d (d : Nat) (h : d < 10) : isD (UInt8.ofNat (48 + d)) ∧ (UInt8.ofNat (48 + d)).toNat - 48 = d := by
  have e : (UInt8.ofNat (48 + d)).toNat = 48 + d := by rw [UInt8.toNat_ofNat']; omega
  unfold isD
  omega
theorem dec_d : ∀ (u : Nat), ∀ c ∈ decDigits u, isD c
  | u => by
    rw [decDigits]
    split
    · rename_i h
      intro c hc
      rw [List.mem_singleton] at hc
      subst hc
      exact (byte_d u h).1
    · rename_i h
      intro c hc
      rcases List.mem_append.1 hc with h1 | h1
      · exact dec_d (u / 10) c h1
      · rw [List.mem_singleton] at h1
        subst h1
        exact (byte_d (u % 10) (Nat.mod_lt _ (by decide))).1
termination_by u => u
decreasing_by omega
theorem dec_val : ∀ (u : Nat), valD 0 (decDigits u) = u
  | u => by
    rw [decDigits]
    split
    · rename_i h
      rw [valD_cons, valD_nil, Nat.zero_mul, Nat.zero_add]
      exact (byte_d u h).2
    · rename_i h
      rw [valD_append, dec_val (u / 10)]
      rw [valD_cons, valD_nil, (byte_d (u % 10) (Nat.mod_lt _ (by decide))).2]
      omega
termination_by u => u
decreasing_by omega
theorem dec_ne (u : Nat) : ∃ c l, decDigits u = c :: l := by
  rw [decDigits]
  split
  · exact ⟨_, _, rfl⟩
  · cases decDigits (u / 10) with
    | nil => exact ⟨_, _, rfl⟩
    | cons c l => exact ⟨c, _, rfl⟩
/-- six places -/
def six (r : Nat) : List UInt8 := [UInt8.ofNat (48 + r / 100000 % 10), UInt8.ofNat (48 + r / 10000 % 10), UInt8.ofNat (48 + r / 1000 % 10), UInt8.ofNat (48 + r / 100 % 10), UInt8.ofNat (48 + r / 10 % 10), UInt8.ofNat (48 + r % 10)]
theorem dec_six (r : Nat) (h : r < 1000000) : decDigits (1000000 + r) = 49 :: six r := by
  have st : ∀ u, ¬ u < 10 → decDigits u = decDigits (u / 10) ++ [UInt8.ofNat (48 + u % 10)] := fun u hu => by rw [decDigits, dif_neg hu]
  rw [st _ (by omega), st ((1000000 + r) / 10) (by omega), st ((1000000 + r) / 10 / 10) (by omega), st ((1000000 + r) / 10 / 10 / 10) (by omega), st ((1000000 + r) / 10 / 10 / 10 / 10) (by omega), st ((1000000 + r) / 10 / 10 / 10 / 10 / 10) (by omega)]
  have e0 : (1000000 + r) / 10 / 10 / 10 / 10 / 10 / 10 = 1 := by omega
  have e1 : (1000000 + r) / 10 / 10 / 10 / 10 / 10 % 10 = r / 100000 % 10 := by omega
  have e2 : (1000000 + r) / 10 / 10 / 10 / 10 % 10 = r / 10000 % 10 := by omega
  have e3 : (1000000 + r) / 10 / 10 / 10 % 10 = r / 1000 % 10 := by omega
  have e4 : (1000000 + r) / 10 / 10 % 10 = r / 100 % 10 := by omega
  have e5 : (1000000 + r) / 10 % 10 = r / 10 % 10 := by omega
  have e6 : (1000000 + r) % 10 = r % 10 := by omega
  rw [e0, e1, e2, e3, e4, e5, e6, decDigits_one (by decide)]
  rfl
theorem six_d (r : Nat) : ∀ c ∈ six r, isD c := by
  intro c hc
  simp only [six, List.mem_cons, List.mem_nil_iff, or_false] at hc
  rcases hc with rfl | rfl | rfl | rfl | rfl | rfl <;> exact (byte_d _ (Nat.mod_lt _ (by decide))).1
theorem six_val (a r : Nat) (h : r < 1000000) : valD a (six r) = a * 1000000 + r := by
  simp only [six, valD_cons, valD_nil, (byte_d _ (Nat.mod_lt _ (by decide : 0 < 10))).2]
  omega
/-- what a text without its last noughts lacks -/
theorem trim_back (l : List UInt8) : ∃ m, l = trimRightS l [48] ++ List.replicate m 48 := by
  unfold trimRightS
  have key : ∀ x : List UInt8, ∃ m, x = List.replicate m 48 ++ x.dropWhile (fun c => [48].contains c) := by
    intro x
    induction x with
    | nil => exact ⟨0, rfl⟩
    | cons c x ih =>
      by_cases hc : c = 48
      · subst hc
        obtain ⟨m, hm⟩ := ih
        refine ⟨m + 1, ?_⟩
        rw [List.dropWhile_cons, if_pos (by decide), List.replicate_succ, List.cons_append, ← hm]
      · refine ⟨0, ?_⟩
        rw [List.dropWhile_cons, if_neg (by simpa using hc)]
        rfl
  obtain ⟨m, hm⟩ := key l.reverse
  refine ⟨m, ?_⟩
  have := congrArg List.reverse hm
  rw [List.reverse_reverse, List.reverse_append, List.reverse_replicate] at this
  exact this
theorem drop_none {l cs : List UInt8} (h : ∀ c ∈ l, cs.contains c = false) : l.dropWhile (fun c => cs.contains c) = l := by
  cases l with
  | nil => rfl
  | cons c l => rw [List.dropWhile_cons, if_neg (by rw [h c (by simp)]; decide)]
theorem trim_none {l cs : List UInt8} (h : ∀ c ∈ l, cs.contains c = false) : trimS l cs = l := by
  unfold trimS trimLeftS trimRightS
  rw [drop_none (l := l.reverse) (fun c hc => h c (by simpa using hc)), List.reverse_reverse, drop_none h]
theorem drop_all {l cs : List UInt8} (h : ∀ c ∈ l, cs.contains c = true) : l.dropWhile (fun c => cs.contains c) = [] := by
  induction l with
  | nil => rfl
  | cons c l ih => rw [List.dropWhile_cons, if_pos (h c (by simp)), ih (fun x hx => h x (by simp [hx]))]
theorem trim_all {l cs : List UInt8} (h : ∀ c ∈ l, cs.contains c = true) : trimS l cs = [] := by
  unfold trimS trimLeftS trimRightS
  rw [drop_all (l := l.reverse) (fun c hc => h c (by simpa using hc))]
  rfl
theorem d_digit {c : UInt8} (h : isD c) : ([48, 49, 50, 51, 52, 53, 54, 55, 56, 57] : List UInt8).contains c = true ∧ ([9, 10, 13, 32] : List UInt8).contains c = false ∧ c ≠ 45 ∧ c ≠ 46 := by
  unfold isD at h
  have e : c = UInt8.ofNat c.toNat := by simp
  generalize c.toNat = n at *
  subst e
  have : n = 48 ∨ n = 49 ∨ n = 50 ∨ n = 51 ∨ n = 52 ∨ n = 53 ∨ n = 54 ∨ n = 55 ∨ n = 56 ∨ n = 57 := by omega
  rcases this with rfl | rfl | rfl | rfl | rfl | rfl | rfl | rfl | rfl | rfl <;> decide
theorem index_none : ∀ (l : List UInt8), (∀ c ∈ l, c ≠ 46) → index l [46] = -1
  | [], _ => rfl
  | c :: l, h => by
    have h1 := h c (by simp)
    have ih := index_none l (fun x hx => h x (by simp [hx]))
    rw [index, if_neg (by simpa [List.isPrefixOf] using Ne.symm h1), ih]
    rfl
theorem index_at : ∀ (l m : List UInt8), (∀ c ∈ l, c ≠ 46) → index (l ++ 46 :: m) [46] = l.length
  | [], m, _ => by simp [index, List.isPrefixOf]
  | c :: l, m, h => by
    have h1 := h c (by simp)
    have ih := index_at l m (fun x hx => h x (by simp [hx]))
    rw [List.cons_append, index, if_neg (by simpa [List.isPrefixOf] using Ne.symm h1), ih, if_neg (by simp)]
    simp
theorem cut_none {l : List UInt8} (h : ∀ c ∈ l, c ≠ 46) : cut l [46] = (l, [], false) := by
  unfold cut
  rw [index_none l h, if_neg (by decide)]
theorem cut_at {l : List UInt8} (m : List UInt8) (h : ∀ c ∈ l, c ≠ 46) : cut (l ++ 46 :: m) [46] = (l, m, true) := by
  unfold cut
  rw [index_at l m h, if_pos (by omega)]
  simp
end Go.Proofs.YthedigbdkjcpfaaDoor.NumD
