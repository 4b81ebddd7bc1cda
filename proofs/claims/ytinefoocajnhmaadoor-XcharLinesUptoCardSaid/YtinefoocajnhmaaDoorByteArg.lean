/- A slice of bytes as an argument: what the reading of it says of the memory. -/
import Derived.Test.YtinefoocajnhmaaDoorPrint0
import Derived.ChangeArms
import Derived.DataReads
import Derived.Test.YtinefoocajnhmaaDoorRows
set_option linter.unusedVariables false
namespace Go.Proofs.YtinefoocajnhmaaDoor.Bytes
open Go.RowKit Go.Proofs.YtinefoocajnhmaaDoorW.PrintWords Go.Proofs.YtinefoocajnhmaaDoor.Print
theorem list_of {α : Type} (G : Nat → α → Prop) : ∀ n : Nat, (∀ i, i < n → ∃ x, G i x) → ∃ l : List α, l.length = n ∧ ∀ (i : Nat) (x : α), l[i]? = some x → G i x := by
  intro n
  induction n with
  | zero => intro _; exact ⟨[], rfl, fun i x h => by simp at h⟩
  | succ n ih =>
    intro h
    obtain ⟨l, hl, hG⟩ := ih fun i hi => h i (by omega)
    obtain ⟨x, hx⟩ := h n (by omega)
    refine ⟨l ++ [x], by simp [hl], fun i y hy => ?_⟩
    by_cases hi : i < l.length
    · rw [List.getElem?_append_left hi] at hy
      exact hG i y hy
    · rw [List.getElem?_append_right (by omega)] at hy
      have h0 : i - l.length = 0 := by
        have := (List.getElem?_eq_some_iff.1 hy).1
        simp only [List.length_cons, List.length_nil] at this
        omega
      rw [h0] at hy
      simp only [List.getElem?_cons_zero, Option.some.injEq] at hy
      rw [← hy, show i = n by omega]
      exact hx
theorem bulk_sum {H α : Type} (f : α → Nat) : ∀ (l : List α) (es : List (DataW H)), l.length = es.length → (∀ (i : Nat) (x : α) (e : DataW H), l[i]? = some x → es[i]? = some e → f x ≤ Rows.uptoBulk e) → (l.map f).sum ≤ Rows.uptoBulkAll es := by
  intro l
  induction l with
  | nil => intro es _ _; simp
  | cons x l ih =>
    intro es hl h
    rcases es with _ | ⟨e, es⟩
    · simp at hl
    · have h1 := h 0 x e rfl rfl
      have h2 := ih es (by simpa using hl) fun i y d hy hd => h (i + 1) y d (by simpa using hy) (by simpa using hd)
      rw [List.map_cons, List.sum_cons, Rows.uptoBulkAll]
      omega
section
variable {H : Type} {enc : TypeId × Value → H} {W : World} {base : Nat} {sp : Nat → Bool} {held : Bool} {m : Nat} {d : DataW H} {p : List MemPlace}
/-- a slice of bytes -/
theorem of_trod {T e : TypeId} (hT : Tryd.prog.underlying T = some (.slice e)) (he : Tryd.prog.underlying e = some (.int .u8)) (h1 : Tryd.prog.cellsOf e = 1) {a : Option Addr} {len cap : Nat} (h : DataW.trod enc Tryd.prog W base sp held m T [.slice a len cap] = some (d, p)) :
    ∃ l : List Int, len = l.length ∧ Kd.C (Kd.int .u8) W a l.length l ∧ l.length ≤ cap ∧ (∀ x ∈ l, (Lit.int .u8 x).wf = true) ∧ (Rows.uptoBulk d ≤ 1048576 → l.length ≤ 1048576) := by
  rcases DataW.trod_slice (enc := enc) hT h with ⟨hcs, _⟩ | ⟨ad, len', cap', elems, rest, n, rfl, hcs, hx, hb, hlc, hcm, hel, hget, _, _⟩
  · simp only [List.cons.injEq, Value.slice.injEq, and_true] at hcs
    obtain ⟨rfl, rfl, rfl⟩ := hcs
    exact ⟨[], rfl, ⟨rfl, by simp, fun h => by simp at h⟩, by simp, by simp, by simp⟩
  · simp only [List.cons.injEq, Value.slice.injEq, and_true] at hcs
    obtain ⟨rfl, rfl, rfl⟩ := hcs
    rw [h1] at hget
    have each : ∀ i, i < len → ∃ t : Int, W.cell? (ad.add i) = some (.int .u8 t) ∧ (Lit.int .u8 t).wf = true ∧ ∀ e, elems[i]? = some e → 1 ≤ Rows.uptoBulk e.1 := by
      intro i hi
      have hg := hget i hi
      obtain ⟨e2, he2⟩ : ∃ e, elems[i]? = some e := ⟨_, List.getElem?_eq_getElem (by omega)⟩
      rw [he2, Option.bind_eq_some_iff] at hg
      obtain ⟨cs, hcells, htr⟩ := hg
      obtain ⟨t, rfl, hx2, hw⟩ := DataW.trod_int he htr
      refine ⟨t, ?_, hw, fun e3 h3 => ?_⟩
      · have h0 := (World.cells?_some hcells).2.2 0 (by omega)
        rw [Addr.add_add, Nat.mul_one] at h0
        exact h0
      · rw [he2] at h3
        obtain rfl := Option.some.inj h3
        rw [hx2]
        exact Nat.le_refl _
    obtain ⟨l, hl, hG⟩ := list_of _ len each
    have hm : maxLen ≤ 9223372036854775807 := by simp [maxLen]
    refine ⟨l, hl.symm, ?_, by omega, ?_, ?_⟩
    · refine Kd.C_of_reads (d := (0 : Int)) (h1 := fun _ => rfl) ⟨rfl, by omega, fun _ => ⟨ad, rfl, fun j hj => ?_⟩⟩
      have hg := (hG j l[j] (List.getElem?_eq_getElem hj)).1
      rw [hg, List.getD_eq_getElem?_getD, List.getElem?_eq_getElem hj]
      rfl
    · intro x hx2
      obtain ⟨i, hi, rfl⟩ := List.mem_iff_getElem.1 hx2
      exact (hG i l[i] (List.getElem?_eq_getElem hi)).2.1
    · intro hbulk
      have hx1 := (Prod.mk.inj hx).1
      rw [hx1, Rows.uptoBulk] at hbulk
      have hs := bulk_sum (fun _ : Int => 1) l (elems.map (·.1)) (by rw [List.length_map]; omega) (fun i x e hx he => by
        rw [List.getElem?_map, Option.map_eq_some_iff] at he
        obtain ⟨y, hy, rfl⟩ := he
        exact (hG i x hx).2.2 y hy)
      have h2 : ∀ l : List Int, (l.map fun _ => 1).sum = l.length := fun l => by induction l with | nil => rfl | cons x l ih => rw [List.map_cons, List.sum_cons, ih, List.length_cons]; omega
      rw [h2] at hs
      omega
end
end Go.Proofs.YtinefoocajnhmaaDoor.Bytes
