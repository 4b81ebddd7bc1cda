/- XsortNumbers, without Go and memory. -/
import Derived.Test.YthedigbdkjcpfaaDoorPrintf3
import Derived.Test.YthedigbdkjcpfaaDoorPrintf10
import Derived.Test.YthedigbdkjcpfaaDoorPrintxsortformat
import Derived.Test.YthedigbdkjcpfaaDoorPrintf13
import Derived.Test.YthedigbdkjcpfaaDoorPrintxsortroman
import Derived.Test.YthedigbdkjcpfaaDoorSortL
import Derived.Test.YthedigbdkjcpfaaDoorSortR
namespace Go.Proofs.YthedigbdkjcpfaaDoor.Pure
open Go.RowKit Go.Proofs.YthedigbdkjcpfaaDoorW.PrintWords Go.Proofs.YthedigbdkjcpfaaDoor.Plain Go.Proofs.YthedigbdkjcpfaaDoor.Print Go.Proofs.YthedigbdkjcpfaaDoor.SortL
theorem live_f : stencillaw13_live.f 64 = some true := by kernel_rfl
theorem letters_neg (k : Nat) (n : Int) (h : n < 1) : xsort_Letters.f (k + 1) n = some (B []) ∧ stencilref13_Letters.f (k + 1) n = some (B []) := by
  constructor
  · unfold xsort_Letters.f
    rw [xsort_Letters.l0, if_neg (by omega)]
    rfl
  · rw [stencilref13_Letters.f, if_pos h]
    rfl
theorem j1_f (n : Int) (h0 : -1099511627776 ≤ n) (h1 : n ≤ 1099511627776) : stencillaw13_XsortNumbers.j1 65 n = some true := by
  obtain ⟨a, r1, r2⟩ := roman_same n
  rw [stencillaw13_XsortNumbers.j1, live_f, obind, if_pos rfl, r1, obind, r2, obind, if_pos rfl]
  by_cases hn : n < 1
  · obtain ⟨l1, l2⟩ := letters_neg 63 n hn
    rw [l1, obind, l2, obind, if_pos rfl, if_pos hn]
  · obtain ⟨m, rfl⟩ : ∃ m : Nat, n = (m : Int) := ⟨n.toNat, by omega⟩
    have hp : m + 1 < 26 ^ 9 := by
      have : (26 : Nat) ^ 9 = 5429503678976 := by decide
      omega
    have l1 : xsort_Letters.f 64 (m : Int) = some (B (lettersF 9 m)) := by
      have := letters_p 9 m 64 [] (by omega) (by omega) (by omega) (by simp)
      rw [List.append_nil] at this
      exact this
    have l2 : xsort_Letters.f 64 ((m + 1 : Nat) : Int) = some (B (lettersF 9 (m + 1))) := by
      have := letters_p 9 (m + 1) 64 [] hp (by omega) (by omega) (by simp)
      rw [List.append_nil] at this
      exact this
    have l3 := letters_r 9 m 64 (by omega) (by omega) (by omega) (by omega)
    have e : wrap64 ((m : Int) + 1) = ((m + 1 : Nat) : Int) := by rw [w64] <;> omega
    rw [l1, obind, l3, obind, if_pos rfl, if_neg hn, obind, e, l2, obind]
    have hne : (B (lettersF 9 m)).toList ≠ (B (lettersF 9 (m + 1))).toList := by
      rw [Lib.toList_data, Lib.toList_data]
      exact letters_ne 8 m (by omega)
    rw [bne_iff_ne.2 hne]
theorem XsortNumbers (n : Int) (_ : (Lit.int .i64 n).wf = true) : ∃ k, stencillaw13_XsortNumbers.f k n = some true := by
  refine ⟨66, ?_⟩
  unfold stencillaw13_XsortNumbers.f
  have hj : ∀ m : Int, m ≤ 1099511627776 → stencillaw13_XsortNumbers.j0 66 m = some true := by
    intro m hm
    rw [stencillaw13_XsortNumbers.j0]
    by_cases h : m < -1099511627776
    · rw [if_pos h]; exact j1_f _ (by decide) (by decide)
    · rw [if_neg h]; exact j1_f _ (by omega) hm
  by_cases h : n > 1099511627776
  · rw [if_pos h]
    refine hj _ ?_
    rw [Int.tmod_eq_emod_of_nonneg (by omega)]
    omega
  · rw [if_neg h]
    exact hj _ (by omega)
end Go.Proofs.YthedigbdkjcpfaaDoor.Pure
