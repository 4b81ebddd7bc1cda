/- A slice of tokens, or of bytes, as an argument: what the reading of it says of the memory. -/
import Derived.Test.YtinefoocajnhmaaDoorPrint0
import Derived.ChangeArms
import Derived.DataReads
import Derived.Test.YtinefoocajnhmaaDoorRows
set_option linter.unusedVariables false
namespace Go.Proofs.YtinefoocajnhmaaDoor.Arg
open Go.RowKit Go.Proofs.YtinefoocajnhmaaDoorW.PrintWords Go.Proofs.YtinefoocajnhmaaDoor.Print
theorem list_of {α : Type} (G : Nat → α → Prop) : ∀ n : Nat, (∀ i, i < n → ∃ x, G i x) → ∃ l : List α, l.length = n ∧ ∀ (i : Nat) (x : α), l[i]? = some x → G i x := by
  intro n
  induction n with
  | zero => intro _; exact ⟨[], rfl, fun i x h => by simp at h⟩
  | succ n ih =>
    intro h
    obtain ⟨l, hl, hG⟩ := ih fun i hi => h i (by omega)
    obtain ⟨x, hx⟩ := h n (by omega)
    refine ⟨l ++ [x], by simp [hl], fun i y hy => ?_⟩
    by_cases hi : i < l.length
    · rw [List.getElem?_append_left hi] at hy
      exact hG i y hy
    · rw [List.getElem?_append_right (by omega)] at hy
      have h0 : i - l.length = 0 := by
        have := (List.getElem?_eq_some_iff.1 hy).1
        simp only [List.length_cons, List.length_nil] at this
        omega
      rw [h0] at hy
      simp only [List.getElem?_cons_zero, Option.some.injEq] at hy
      rw [← hy, show i = n by omega]
      exact hx
theorem three {α : Type} {l : List α} (h : l.length = 3) : ∃ a b c, l = [a, b, c] := by
  match l, h with
  | [a, b, c], _ => exact ⟨a, b, c, rfl⟩
theorem bulk_sum {H α : Type} (f : α → Nat) : ∀ (l : List α) (es : List (DataW H)), l.length = es.length → (∀ (i : Nat) (x : α) (e : DataW H), l[i]? = some x → es[i]? = some e → f x ≤ Rows.uptoBulk e) → (l.map f).sum ≤ Rows.uptoBulkAll es := by
  intro l
  induction l with
  | nil => intro es _ _; simp
  | cons x l ih =>
    intro es hl h
    rcases es with _ | ⟨e, es⟩
    · simp at hl
    · have h1 := h 0 x e rfl rfl
      have h2 := ih es (by simpa using hl) fun i y d hy hd => h (i + 1) y d (by simpa using hy) (by simpa using hd)
      rw [List.map_cons, List.sum_cons, Rows.uptoBulkAll]
      omega
section
variable {H : Type} {enc : TypeId × Value → H} {W : World} {base : Nat} {sp : Nat → Bool} {held : Bool} {m : Nat} {d : DataW H} {p : List MemPlace}
theorem lex_of {cs : List Value} {x : DataW H × List MemPlace} (h : DataW.trod enc Tryd.prog W base sp held m 30 cs = some x) : ∃ t : S30, cs = [.int .i64 t.f0, .string t.f1, .int .i64 t.f2] ∧ t.f1.size + 1 ≤ Rows.uptoBulk x.1 := by
  obtain ⟨xs, n, rfl, hx, hlen, hxs, hf⟩ := DataW.trod_struct (enc := enc) Tryd.underlying30 h
  have h0 := hf 0 _ rfl
  have h1 := hf 1 _ rfl
  have h2 := hf 2 _ rfl
  have h3 : Tryd.prog.cellsOf 30 = 3 := by kernel_rfl
  have hc : cs.length = 3 := hlen.trans h3
  obtain ⟨a, b, c, rfl⟩ := three hc
  have hxl : xs.length = 3 := hxs
  obtain ⟨y0, y1, y2, rfl⟩ := three hxl
  have c0 : Tryd.prog.cellsOf 28 = 1 := by kernel_rfl
  have c1 : Tryd.prog.cellsOf 9 = 1 := by kernel_rfl
  have c2 : Tryd.prog.cellsOf 3 = 1 := by kernel_rfl
  simp only [List.getElem_toArray, List.getElem_cons_zero, List.getElem_cons_succ] at h0 h1 h2
  rw [c0] at h0
  rw [c1] at h1
  rw [c2] at h2
  have h0' : DataW.trod enc Tryd.prog W base sp held n 28 [a] = some y0 := h0
  have h1' : DataW.trod enc Tryd.prog W base sp held n 9 [b] = some y1 := h1
  have h2' : DataW.trod enc Tryd.prog W base sp held n 3 [c] = some y2 := h2
  obtain ⟨n0, e0, _, _⟩ := DataW.trod_int Tryd.underlying28 h0'
  obtain ⟨s1, e1, f1, _⟩ := DataW.trod_string Tryd.underlying9 h1'
  obtain ⟨n2, e2, _, _⟩ := DataW.trod_int Tryd.underlying3 h2'
  obtain rfl := (List.cons.inj e0).1
  obtain rfl := (List.cons.inj e1).1
  obtain rfl := (List.cons.inj e2).1
  refine ⟨⟨n0, s1, n2⟩, rfl, ?_⟩
  rw [hx, f1]
  have e : s1.data.toList.length = s1.size := by rw [Array.length_toList]; rfl
  simp only [List.map_cons, List.map_nil, Rows.uptoBulk, Rows.uptoBulkAll, e]
  omega
/-- a slice of tokens -/
theorem lexs_of {a : Option Addr} {len cap : Nat} (h : DataW.trod enc Tryd.prog W base sp held m 22 [.slice a len cap] = some (d, p)) :
    ∃ l : List S30, len = l.length ∧ Kd.C k30 W a l.length l ∧ l.length ≤ cap ∧ (l.map fun x => x.f1.size + 1).sum ≤ Rows.uptoBulk d := by
  rcases DataW.trod_slice (enc := enc) Tryd.underlying22 h with ⟨hcs, _⟩ | ⟨ad, len', cap', elems, rest, n, rfl, hcs, hx, hb, hlc, hcm, hel, hget, _, _⟩
  · simp only [List.cons.injEq, Value.slice.injEq, and_true] at hcs
    obtain ⟨rfl, rfl, rfl⟩ := hcs
    exact ⟨[], rfl, ⟨rfl, by simp, fun h => by simp at h⟩, by simp, by simp⟩
  · simp only [List.cons.injEq, Value.slice.injEq, and_true] at hcs
    obtain ⟨rfl, rfl, rfl⟩ := hcs
    have h3 : Tryd.prog.cellsOf 30 = 3 := by kernel_rfl
    rw [h3] at hget
    have each : ∀ i, i < len → ∃ t : S30, (∀ j, j < 3 → W.cell? ((ad.add (i * 3)).add j) = [Value.int .i64 t.f0, .string t.f1, .int .i64 t.f2][j]?) ∧ ∀ e, elems[i]? = some e → t.f1.size + 1 ≤ Rows.uptoBulk e.1 := by
      intro i hi
      have hg := hget i hi
      obtain ⟨e, he⟩ : ∃ e, elems[i]? = some e := ⟨_, List.getElem?_eq_getElem (by omega)⟩
      rw [he, Option.bind_eq_some_iff] at hg
      obtain ⟨cs, hcells, htr⟩ := hg
      obtain ⟨t, rfl, hbulk⟩ := lex_of htr
      refine ⟨t, (World.cells?_some hcells).2.2, fun e2 h2 => ?_⟩
      rw [he] at h2
      rw [← Option.some.inj h2]
      exact hbulk
    obtain ⟨l, hl, hG⟩ := list_of _ len each
    have hm : maxLen ≤ 9223372036854775807 := by simp [maxLen]
    refine ⟨l, hl.symm, ⟨rfl, by omega, fun _ => ⟨ad, rfl, fun j t hj => ?_⟩⟩, by omega, ?_⟩
    · have hg := (hG j t hj).1
      refine ⟨[.int .i64 t.f0, .string t.f1, .int .i64 t.f2], rfl, k30_mk W t, fun i u hu => ?_⟩
      have hi : i < 3 := by have := (List.getElem?_eq_some_iff.1 hu).1; simpa using this
      have h1 := hg i hi
      rw [← hu, ← h1]
      rw [Addr.add_add]; rfl
    · have hx1 := (Prod.mk.inj hx).1
      rw [hx1, Rows.uptoBulk]
      have := bulk_sum (fun x : S30 => x.f1.size + 1) l (elems.map (·.1)) (by rw [List.length_map]; omega) (fun i x e hx he => by
        rw [List.getElem?_map, Option.map_eq_some_iff] at he
        obtain ⟨y, hy, rfl⟩ := he
        exact (hG i x hx).2 y hy)
      omega
end
end Go.Proofs.YtinefoocajnhmaaDoor.Arg
