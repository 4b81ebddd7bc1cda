/- A slice of texts as an argument: what the reading of it says of the memory. -/
import Derived.Test.YthedigbdkjcpfaaDoorPrint0
import Derived.ChangeArms
import Derived.DataReads
import Derived.Test.YthedigbdkjcpfaaDoorRows
set_option linter.unusedVariables false
namespace Go.Proofs.YthedigbdkjcpfaaDoor.ArgS
open Go.RowKit Go.Proofs.YthedigbdkjcpfaaDoorW.PrintWords Go.Proofs.YthedigbdkjcpfaaDoor.Print
theorem list_of {α : Type} (G : Nat → α → Prop) : ∀ n : Nat, (∀ i, i < n → ∃ x, G i x) → ∃ l : List α, l.length = n ∧ ∀ (i : Nat) (x : α), l[i]? = some x → G i x := by
  intro n
  induction n with
  | zero => intro _; exact ⟨[], rfl, fun i x h => by simp at h⟩
  | succ n ih =>
    intro h
    obtain ⟨l, hl, hG⟩ := ih fun i hi => h i (by omega)
    obtain ⟨x, hx⟩ := h n (by omega)
    refine ⟨l ++ [x], by simp [hl], fun i y hy => ?_⟩
    by_cases hi : i < l.length
    · rw [List.getElem?_append_left hi] at hy
      exact hG i y hy
    · rw [List.getElem?_append_right (by omega)] at hy
      have h0 : i - l.length = 0 := by
        have := (List.getElem?_eq_some_iff.1 hy).1
        simp only [List.length_cons, List.length_nil] at this
        omega
      rw [h0] at hy
      simp only [List.getElem?_cons_zero, Option.some.injEq] at hy
      rw [← hy, show i = n by omega]
      exact hx
section
variable {H : Type} {enc : TypeId × Value → H} {W : World} {base : Nat} {sp : Nat → Bool} {held : Bool} {m : Nat} {d : DataW H} {p : List MemPlace}
/-- a slice of texts -/
theorem strs_of {a : Option Addr} {len cap : Nat} (h : DataW.trod enc Tryd.prog W base sp held m 36 [.slice a len cap] = some (d, p)) :
    ∃ l : List ByteArray, len = l.length ∧ Kd.C Kd.string W a l.length l ∧ l.length ≤ cap := by
  rcases DataW.trod_slice (enc := enc) Tryd.underlying36 h with ⟨hcs, _⟩ | ⟨ad, len', cap', elems, rest, n, rfl, hcs, hx, hb, hlc, hcm, hel, hget, _, _⟩
  · simp only [List.cons.injEq, Value.slice.injEq, and_true] at hcs
    obtain ⟨rfl, rfl, rfl⟩ := hcs
    exact ⟨[], rfl, ⟨rfl, by simp, fun h => by simp at h⟩, by simp⟩
  · simp only [List.cons.injEq, Value.slice.injEq, and_true] at hcs
    obtain ⟨rfl, rfl, rfl⟩ := hcs
    have h3 : Tryd.prog.cellsOf 9 = 1 := by kernel_rfl
    rw [h3] at hget
    have each : ∀ i, i < len → ∃ t : ByteArray, ∀ j, j < 1 → W.cell? ((ad.add (i * 1)).add j) = [Value.string t][j]? := by
      intro i hi
      have hg := hget i hi
      obtain ⟨e, he⟩ : ∃ e, elems[i]? = some e := ⟨_, List.getElem?_eq_getElem (by omega)⟩
      rw [he, Option.bind_eq_some_iff] at hg
      obtain ⟨cs, hcells, htr⟩ := hg
      obtain ⟨s1, e1, _, _⟩ := DataW.trod_string Tryd.underlying9 htr
      subst e1
      exact ⟨s1, (World.cells?_some hcells).2.2⟩
    obtain ⟨l, hl, hG⟩ := list_of _ len each
    have hm : maxLen ≤ 9223372036854775807 := by simp [maxLen]
    refine ⟨l, hl.symm, ⟨rfl, by omega, fun _ => ⟨ad, rfl, fun j t hj => ?_⟩⟩, by omega⟩
    have hg := hG j t hj
    refine ⟨[.string t], rfl, rfl, fun i u hu => ?_⟩
    have hi : i < 1 := by have := (List.getElem?_eq_some_iff.1 hu).1; simpa using this
    have h1 := hg i hi
    rw [← hu, ← h1]
    rw [Addr.add_add]; rfl
end
end Go.Proofs.YthedigbdkjcpfaaDoor.ArgS
