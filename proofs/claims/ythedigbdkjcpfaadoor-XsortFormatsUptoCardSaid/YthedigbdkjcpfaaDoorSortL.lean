/- Letters and Roman numbers, without Go and memory. -/
import Derived.Test.YthedigbdkjcpfaaDoorPrintf13
import Derived.Test.YthedigbdkjcpfaaDoorPrintf10
import Derived.Lib.ItoaNum
set_option linter.unusedSimpArgs false
namespace Go.Proofs.YthedigbdkjcpfaaDoor.SortL
open Go.RowKit Go.Proofs.YthedigbdkjcpfaaDoorW.PrintWords Go.Proofs.YthedigbdkjcpfaaDoor.Plain Go.Proofs.YthedigbdkjcpfaaDoor.Print
theorem obind {α β : Type} (x : α) (f : α → Option β) : (some x).bind f = f x := by rw [Option.bind_some]
theorem bytes_eq {a b : ByteArray} (h : a.data.toList = b.data.toList) : a = b := by
  cases a; cases b; congr 1; exact Array.ext' h
def B (l : List UInt8) : ByteArray := ⟨l.toArray⟩
theorem B_size (l : List UInt8) : (B l).size = l.length := by show l.toArray.size = _; simp
theorem B_list (l : List UInt8) : (B l).data.toList = l := rfl
theorem B_append (a b : List UInt8) : B a ++ B b = B (a ++ b) := bytes_eq (by simp [B])
/-- a number in letters -/
def lettersF : Nat → Nat → List UInt8
  | 0, _ => []
  | _ + 1, 0 => []
  | f + 1, n + 1 => lettersF f (n / 26) ++ [UInt8.ofNat (97 + n % 26)]
theorem letters_len : ∀ (f n : Nat), (lettersF f n).length ≤ f
  | 0, n => by cases n <;> simp [lettersF]
  | f + 1, 0 => by simp [lettersF]
  | f + 1, n + 1 => by
    rw [lettersF, List.length_append]
    have := letters_len f (n / 26)
    simp only [List.length_cons, List.length_nil]
    omega
theorem letter_b : (List.range 26).all (fun d => decide (Utf8.encode ((97 + d : Nat) : Int) = B [UInt8.ofNat (97 + d)]) && decide (strOfNums [((97 + d : Nat) : Int)] = B [UInt8.ofNat (97 + d)])) = true := by kernel_rfl
theorem letter_e {d : Nat} (h : d < 26) : Utf8.encode ((97 + d : Nat) : Int) = B [UInt8.ofNat (97 + d)] ∧ strOfNums [((97 + d : Nat) : Int)] = B [UInt8.ofNat (97 + d)] := by
  have := List.all_eq_true.1 letter_b d (List.mem_range.2 h)
  simp only [Bool.and_eq_true, decide_eq_true_eq] at this
  exact this
theorem w64 {x : Int} (h : -9223372036854775808 ≤ x) (h2 : x < 9223372036854775808) : wrap64 x = x := by unfold wrap64; omega
theorem w32 {x : Int} (h : -2147483648 ≤ x) (h2 : x < 2147483648) : wrap32 x = x := by unfold wrap32; omega
theorem step_n (n : Nat) (h : n < 9223372036854775807) : wrap64 (((n + 1 : Nat) : Int) - 1) = (n : Int) ∧ Int.tmod (n : Int) 26 = ((n % 26 : Nat) : Int) ∧ wrap64 (Int.tdiv (n : Int) 26) = ((n / 26 : Nat) : Int) ∧ wrap64 (97 + ((n % 26 : Nat) : Int)) = ((97 + n % 26 : Nat) : Int) ∧ wrap32 ((97 + n % 26 : Nat) : Int) = ((97 + n % 26 : Nat) : Int) := by
  refine ⟨by rw [w64] <;> omega, ?_, ?_, ?_, ?_⟩
  · rw [Int.tmod_eq_emod_of_nonneg (Int.natCast_nonneg _)]; rfl
  · rw [Int.tdiv_eq_ediv_of_nonneg (Int.natCast_nonneg _), w64] <;> omega
  · rw [w64] <;> omega
  · rw [w32] <;> omega
theorem div_lt {n f : Nat} (hn : n + 1 < 26 ^ (f + 1)) : n / 26 < 26 ^ f := by
  rw [Nat.pow_succ] at hn
  generalize 26 ^ f = q at *
  omega
theorem letters_p : ∀ (f n k : Nat) (s : List UInt8), n < 26 ^ f → n < 9223372036854775807 → f + 1 ≤ k → f + s.length ≤ 1000000 → xsort_Letters.l0 k (n : Int) (B s) = some (B (lettersF f n ++ s))
  | 0, n, k, s, hn, _, hk, _ => by
    obtain ⟨k, rfl⟩ : ∃ j, k = j + 1 := ⟨k - 1, by omega⟩
    have : n = 0 := by simpa using hn
    subst this
    rw [xsort_Letters.l0, if_neg (by decide)]
    rfl
  | f + 1, 0, k, s, _, _, hk, _ => by
    obtain ⟨k, rfl⟩ : ∃ j, k = j + 1 := ⟨k - 1, by omega⟩
    rw [xsort_Letters.l0, if_neg (by decide)]
    rfl
  | f + 1, n + 1, k, s, hn, hb, hk, hs => by
    have hd : n / 26 < 26 ^ f := div_lt hn
    clear hn
    obtain ⟨k, rfl⟩ : ∃ j, k = j + 1 := ⟨k - 1, by clear hd; omega⟩
    obtain ⟨e1, e2, e3, e4, e5⟩ := step_n n (by clear hd; omega)
    obtain ⟨u1, _⟩ := letter_e (Nat.mod_lt n (by decide : 26 > 0))
    rw [xsort_Letters.l0, if_pos (by clear hd; omega), e1, e2, e3, e4, e5, u1, B_size, B_size, if_pos (by clear hd; simp only [List.length_cons, List.length_nil]; omega), B_append]
    rw [letters_p f (n / 26) k ([UInt8.ofNat (97 + n % 26)] ++ s) hd (by clear hd; omega) (by clear hd; omega) (by clear hd; simp only [List.length_append, List.length_cons, List.length_nil]; omega), lettersF]
    simp
theorem letters_r : ∀ (f n k : Nat), n < 26 ^ f → n < 9223372036854775807 → f + 1 ≤ k → f ≤ 1000000 → stencilref13_Letters.f k (n : Int) = some (B (lettersF f n))
  | 0, n, k, hn, _, hk, _ => by
    obtain ⟨k, rfl⟩ : ∃ j, k = j + 1 := ⟨k - 1, by omega⟩
    have : n = 0 := by simpa using hn
    subst this
    rw [stencilref13_Letters.f, if_pos (by decide)]
    rfl
  | f + 1, 0, k, _, _, hk, _ => by
    obtain ⟨k, rfl⟩ : ∃ j, k = j + 1 := ⟨k - 1, by omega⟩
    rw [stencilref13_Letters.f, if_pos (by decide)]
    rfl
  | f + 1, n + 1, k, hn, hb, hk, hf => by
    have hd : n / 26 < 26 ^ f := div_lt hn
    clear hn
    obtain ⟨k, rfl⟩ : ∃ j, k = j + 1 := ⟨k - 1, by clear hd; omega⟩
    obtain ⟨e1, e2, e3, e4, e5⟩ := step_n n (by clear hd; omega)
    obtain ⟨_, u1⟩ := letter_e (Nat.mod_lt n (by decide : 26 > 0))
    have hl := letters_len f (n / 26)
    have e6 : ((97 + n % 26 : Nat) : Int) % 256 = ((97 + n % 26 : Nat) : Int) := by clear hd; omega
    rw [stencilref13_Letters.f, if_neg (by clear hd; omega), e1, e2, e3, e4, letters_r f (n / 26) k hd (by clear hd; omega) (by clear hd; omega) (by clear hd; omega), obind, obind, e6, u1, B_size, B_size, if_pos (by clear hd; simp only [List.length_cons, List.length_nil]; omega), B_append, lettersF]
theorem letters_last (f n : Nat) (hn : 1 ≤ n) : ∃ l, lettersF (f + 1) n = l ++ [UInt8.ofNat (97 + (n - 1) % 26)] := by
  obtain ⟨m, rfl⟩ : ∃ m, n = m + 1 := ⟨n - 1, by omega⟩
  exact ⟨_, rfl⟩
theorem letters_ne (f n : Nat) (hn : 1 ≤ n) : lettersF (f + 1) n ≠ lettersF (f + 1) (n + 1) := by
  intro h
  obtain ⟨l, h1⟩ := letters_last f n hn
  obtain ⟨m, h2⟩ := letters_last f (n + 1) (by omega)
  rw [h1, h2] at h
  have := (List.append_inj' h rfl).2
  have h3 := congrArg UInt8.toNat (List.cons.inj this).1
  simp only [UInt8.toNat_ofNat'] at h3
  omega
end Go.Proofs.YthedigbdkjcpfaaDoor.SortL
