/- Roman numbers: the program's are the document's, by reckoning all of them. -/
import Derived.Test.YthedigbdkjcpfaaDoorPrintxsortroman
import Derived.Test.YthedigbdkjcpfaaDoorPrintf10
import Derived.Test.YthedigbdkjcpfaaDoorSortL
namespace Go.Proofs.YthedigbdkjcpfaaDoor.SortL
open Go.RowKit Go.Proofs.YthedigbdkjcpfaaDoorW.PrintWords Go.Proofs.YthedigbdkjcpfaaDoor.Plain Go.Proofs.YthedigbdkjcpfaaDoor.Print
set_option maxRecDepth 100000 in
theorem roman_all : (List.range 4000).all (fun n => match xsort_Roman.f (n : Int), stencilref13_Roman.f 64 (n : Int) with | some a, some b => decide (a.data.toList = b.data.toList) | _, _ => false) = true := by kernel_rfl
theorem roman_same (n : Int) : ∃ a, xsort_Roman.f n = some a ∧ stencilref13_Roman.f 64 n = some a := by
  by_cases h1 : n < 1
  · exact ⟨⟨#[]⟩, by unfold xsort_Roman.f; rw [if_pos h1], by unfold stencilref13_Roman.f; rw [if_pos h1]; rfl⟩
  · by_cases h2 : n > 3999
    · refine ⟨⟨#[]⟩, by unfold xsort_Roman.f; rw [if_neg h1, if_pos h2], ?_⟩
      unfold stencilref13_Roman.f
      rw [if_neg h1, decide_eq_true h2]
      rfl
    · obtain ⟨m, rfl⟩ : ∃ m : Nat, n = (m : Int) := ⟨n.toNat, by omega⟩
      have := List.all_eq_true.1 roman_all m (List.mem_range.2 (by omega))
      revert this
      cases xsort_Roman.f (m : Int) with
      | none => intro h; cases h
      | some a =>
        cases stencilref13_Roman.f 64 (m : Int) with
        | none => intro h; cases h
        | some b =>
          intro h
          have e : a = b := bytes_eq (of_decide_eq_true h)
          exact ⟨a, rfl, by rw [e]⟩
end Go.Proofs.YthedigbdkjcpfaaDoor.SortL
