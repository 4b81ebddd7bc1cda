/- Rows of keys as an argument: what the reading of it says of the memory. -/
import Derived.Test.YthedigbdkjcpfaaDoorPrint0
import Derived.ChangeArms
import Derived.DataReads
import Derived.Test.YthedigbdkjcpfaaDoorRows
set_option linter.unusedVariables false
namespace Go.Proofs.YthedigbdkjcpfaaDoor.ArgK
open Go.RowKit Go.Proofs.YthedigbdkjcpfaaDoorW.PrintWords Go.Proofs.YthedigbdkjcpfaaDoor.Print
theorem list_of {α : Type} (G : Nat → α → Prop) : ∀ n : Nat, (∀ i, i < n → ∃ x, G i x) → ∃ l : List α, l.length = n ∧ ∀ (i : Nat) (x : α), l[i]? = some x → G i x := by
  intro n
  induction n with
  | zero => intro _; exact ⟨[], rfl, fun i x h => by simp at h⟩
  | succ n ih =>
    intro h
    obtain ⟨l, hl, hG⟩ := ih fun i hi => h i (by omega)
    obtain ⟨x, hx⟩ := h n (by omega)
    refine ⟨l ++ [x], by simp [hl], fun i y hy => ?_⟩
    by_cases hi : i < l.length
    · rw [List.getElem?_append_left hi] at hy
      exact hG i y hy
    · rw [List.getElem?_append_right (by omega)] at hy
      have h0 : i - l.length = 0 := by
        have := (List.getElem?_eq_some_iff.1 hy).1
        simp only [List.length_cons, List.length_nil] at this
        omega
      rw [h0] at hy
      simp only [List.getElem?_cons_zero, Option.some.injEq] at hy
      rw [← hy, show i = n by omega]
      exact hx
theorem two {α : Type} {l : List α} (h : l.length = 2) : ∃ a b, l = [a, b] := by
  match l, h with
  | [a, b], _ => exact ⟨a, b, rfl⟩
theorem four {α : Type} {l : List α} (h : l.length = 4) : ∃ a b c d, l = [a, b, c, d] := by
  match l, h with
  | [a, b, c, d], _ => exact ⟨a, b, c, d, rfl⟩
theorem five {α : Type} {l : List α} (h : l.length = 5) : ∃ a b c d e, l = [a, b, c, d, e] := by
  match l, h with
  | [a, b, c, d, e], _ => exact ⟨a, b, c, d, e, rfl⟩
section
variable {H : Type} {enc : TypeId × Value → H} {W : World} {base : Nat} {sp : Nat → Bool} {held : Bool} {m : Nat} {d : DataW H} {p : List MemPlace}
theorem num_of {cs : List Value} {x : DataW H × List MemPlace} (h : DataW.trod enc Tryd.prog W base sp held m 39 cs = some x) : ∃ t : S39, cs = [.int .i64 t.f0, .int .i64 t.f1] := by
  obtain ⟨xs, n, rfl, hx, hlen, hxs, hf⟩ := DataW.trod_struct (enc := enc) Tryd.underlying39 h
  have h0 := hf 0 _ rfl
  have h1 := hf 1 _ rfl
  have h3 : Tryd.prog.cellsOf 39 = 2 := by kernel_rfl
  have hc : cs.length = 2 := hlen.trans h3
  obtain ⟨a, b, rfl⟩ := two hc
  have hxl : xs.length = 2 := hxs
  obtain ⟨y0, y1, rfl⟩ := two hxl
  have c0 : Tryd.prog.cellsOf 37 = 1 := by kernel_rfl
  have c1 : Tryd.prog.cellsOf 2 = 1 := by kernel_rfl
  simp only [List.getElem_toArray, List.getElem_cons_zero, List.getElem_cons_succ] at h0 h1
  rw [c0] at h0
  rw [c1] at h1
  have h0' : DataW.trod enc Tryd.prog W base sp held n 37 [a] = some y0 := h0
  have h1' : DataW.trod enc Tryd.prog W base sp held n 2 [b] = some y1 := h1
  obtain ⟨n0, e0, _, _⟩ := DataW.trod_int Tryd.underlying37 h0'
  obtain ⟨n1, e1, _, _⟩ := DataW.trod_int Tryd.underlying2 h1'
  obtain rfl := (List.cons.inj e0).1
  obtain rfl := (List.cons.inj e1).1
  exact ⟨⟨n0, n1⟩, rfl⟩
theorem key_of {cs : List Value} {x : DataW H × List MemPlace} (h : DataW.trod enc Tryd.prog W base sp held m 41 cs = some x) : ∃ t : S41, cs = [.bool t.f0, .bool t.f1, .string t.f2, .int .i64 t.f3.f0, .int .i64 t.f3.f1] := by
  obtain ⟨xs, n, rfl, hx, hlen, hxs, hf⟩ := DataW.trod_struct (enc := enc) Tryd.underlying41 h
  have h0 := hf 0 _ rfl
  have h1 := hf 1 _ rfl
  have h2 := hf 2 _ rfl
  have h3 := hf 3 _ rfl
  have h5 : Tryd.prog.cellsOf 41 = 5 := by kernel_rfl
  have hc : cs.length = 5 := hlen.trans h5
  obtain ⟨a, b, c, d, e, rfl⟩ := five hc
  have hxl : xs.length = 4 := hxs
  obtain ⟨y0, y1, y2, y3, rfl⟩ := four hxl
  have c0 : Tryd.prog.cellsOf 4 = 1 := by kernel_rfl
  have c2 : Tryd.prog.cellsOf 9 = 1 := by kernel_rfl
  have c3 : Tryd.prog.cellsOf 39 = 2 := by kernel_rfl
  simp only [List.getElem_toArray, List.getElem_cons_zero, List.getElem_cons_succ] at h0 h1 h2 h3
  rw [c0] at h0 h1
  rw [c2] at h2
  rw [c3] at h3
  have h0' : DataW.trod enc Tryd.prog W base sp held n 4 [a] = some y0 := h0
  have h1' : DataW.trod enc Tryd.prog W base sp held n 4 [b] = some y1 := h1
  have h2' : DataW.trod enc Tryd.prog W base sp held n 9 [c] = some y2 := h2
  have h3' : DataW.trod enc Tryd.prog W base sp held n 39 [d, e] = some y3 := h3
  obtain ⟨n0, e0, _, _⟩ := DataW.trod_bool Tryd.underlying4 h0'
  obtain ⟨n1, e1, _, _⟩ := DataW.trod_bool Tryd.underlying4 h1'
  obtain ⟨s2, e2, _, _⟩ := DataW.trod_string Tryd.underlying9 h2'
  obtain ⟨t3, e3⟩ := num_of h3'
  obtain rfl := (List.cons.inj e0).1
  obtain rfl := (List.cons.inj e1).1
  obtain rfl := (List.cons.inj e2).1
  obtain ⟨rfl, e4⟩ := List.cons.inj e3
  obtain ⟨rfl, _⟩ := List.cons.inj e4
  exact ⟨⟨n0, n1, s2, t3⟩, rfl⟩
/-- a row of keys -/
theorem row_of {v : Value} {x : DataW H × List MemPlace} (h : DataW.trod enc Tryd.prog W base sp held m 35 [v] = some x) :
    ∃ (a : Option Addr) (cap : Nat) (l : List S41), v = .slice a l.length cap ∧ Kd.C k41 W a l.length l ∧ l.length ≤ cap := by
  obtain ⟨d, p⟩ := x
  rcases DataW.trod_slice (enc := enc) Tryd.underlying35 h with ⟨hcs, _⟩ | ⟨ad, len, cap, elems, rest, n, rfl, hcs, hx, hb, hlc, hcm, hel, hget, _, _⟩
  · obtain rfl := (List.cons.inj hcs).1
    exact ⟨none, 0, [], rfl, ⟨rfl, by simp, fun h => by simp at h⟩, by simp⟩
  · obtain rfl := (List.cons.inj hcs).1
    have h3 : Tryd.prog.cellsOf 41 = 5 := by kernel_rfl
    rw [h3] at hget
    have each : ∀ i, i < len → ∃ t : S41, ∀ j, j < 5 → W.cell? ((ad.add (i * 5)).add j) = [Value.bool t.f0, .bool t.f1, .string t.f2, .int .i64 t.f3.f0, .int .i64 t.f3.f1][j]? := by
      intro i hi
      have hg := hget i hi
      obtain ⟨e, he⟩ : ∃ e, elems[i]? = some e := ⟨_, List.getElem?_eq_getElem (by omega)⟩
      rw [he, Option.bind_eq_some_iff] at hg
      obtain ⟨cs, hcells, htr⟩ := hg
      obtain ⟨t, rfl⟩ := key_of htr
      exact ⟨t, (World.cells?_some hcells).2.2⟩
    obtain ⟨l, hl, hG⟩ := list_of _ len each
    have hm : maxLen ≤ 9223372036854775807 := by simp [maxLen]
    subst hl
    refine ⟨some ad, cap, l, rfl, ⟨rfl, by omega, fun _ => ⟨ad, rfl, fun j t hj => ?_⟩⟩, by omega⟩
    have hg := hG j t hj
    refine ⟨[.bool t.f0, .bool t.f1, .string t.f2, .int .i64 t.f3.f0, .int .i64 t.f3.f1], rfl, k41_mk W t, fun i u hu => ?_⟩
    have hi : i < 5 := by have := (List.getElem?_eq_some_iff.1 hu).1; simpa using this
    have h1 := hg i hi
    rw [← hu, ← h1]
    rw [Addr.add_add]; rfl
/-- rows of keys -/
theorem keys_of {a : Option Addr} {len cap : Nat} (h : DataW.trod enc Tryd.prog W base sp held m 25 [.slice a len cap] = some (d, p)) :
    ∃ l : List (List S41), len = l.length ∧ Kd.C (Kd.slice 41 k41) W a l.length l ∧ l.length ≤ cap := by
  rcases DataW.trod_slice (enc := enc) Tryd.underlying25 h with ⟨hcs, _⟩ | ⟨ad, len', cap', elems, rest, n, rfl, hcs, hx, hb, hlc, hcm, hel, hget, _, _⟩
  · simp only [List.cons.injEq, Value.slice.injEq, and_true] at hcs
    obtain ⟨rfl, rfl, rfl⟩ := hcs
    exact ⟨[], rfl, ⟨rfl, by simp, fun h => by simp at h⟩, by simp⟩
  · simp only [List.cons.injEq, Value.slice.injEq, and_true] at hcs
    obtain ⟨rfl, rfl, rfl⟩ := hcs
    have h3 : Tryd.prog.cellsOf 35 = 1 := by kernel_rfl
    rw [h3] at hget
    have each : ∀ i, i < len → ∃ t : List S41, ∃ (a2 : Option Addr) (cap2 : Nat), (∀ j, j < 1 → W.cell? ((ad.add (i * 1)).add j) = [Value.slice a2 t.length cap2][j]?) ∧ t.length ≤ cap2 ∧ Kd.C k41 W a2 t.length t := by
      intro i hi
      have hg := hget i hi
      obtain ⟨e, he⟩ : ∃ e, elems[i]? = some e := ⟨_, List.getElem?_eq_getElem (by omega)⟩
      rw [he, Option.bind_eq_some_iff] at hg
      obtain ⟨cs, hcells, htr⟩ := hg
      have hcl := World.cells?_some hcells
      have hl1 : cs.length = 1 := by first | exact hcl.1 | exact hcl.2.1
      obtain ⟨v, rfl⟩ : ∃ v, cs = [v] := by
        match cs, hl1 with
        | [v], _ => exact ⟨v, rfl⟩
      obtain ⟨a2, cap2, l2, rfl, hC, hl⟩ := row_of htr
      exact ⟨l2, a2, cap2, hcl.2.2, hl, hC⟩
    obtain ⟨l, hl, hG⟩ := list_of _ len each
    have hm : maxLen ≤ 9223372036854775807 := by simp [maxLen]
    refine ⟨l, hl.symm, ⟨rfl, by omega, fun _ => ⟨ad, rfl, fun j t hj => ?_⟩⟩, by omega⟩
    obtain ⟨a2, cap2, hg, hl2, hC⟩ := hG j t hj
    refine ⟨[.slice a2 t.length cap2], rfl, ⟨a2, cap2, rfl, hl2, hC⟩, fun i u hu => ?_⟩
    have hi : i < 1 := by have := (List.getElem?_eq_some_iff.1 hu).1; simpa using this
    have h1 := hg i hi
    rw [← hu, ← h1]
    rw [Addr.add_add]; rfl
end
end Go.Proofs.YthedigbdkjcpfaaDoor.ArgK
