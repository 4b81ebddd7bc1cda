/- A number as an argument: what the reading of it says. -/
import Derived.Test.YthedigbdkjcpfaaGreatDoorPrint0
import Derived.ChangeArms
import Derived.DataReads
import Derived.WideShapes
set_option linter.unusedVariables false
namespace Go.Proofs.YthedigbdkjcpfaaGreatDoor.NumArg
open Go.RowKit Go.Proofs.YthedigbdkjcpfaaGreatDoorW.PrintWords Go.Proofs.YthedigbdkjcpfaaGreatDoor.Print Go.ChangeShapes Go.WideShapes
theorem two {α : Type} {l : List α} (h : l.length = 2) : ∃ a b, l = [a, b] := by
  match l, h with
  | [a, b], _ => exact ⟨a, b, rfl⟩
section
variable {H : Type} {enc : TypeId × Value → H} {W : World} {base : Nat} {sp : Nat → Bool} {held : Bool} {m : Nat}
theorem num_of {cs : List Value} {x : DataW H × List MemPlace} (h : DataW.trod enc Tryz.prog W base sp held m 24 cs = some x) : ∃ a b : Int, cs = [.int .i64 a, .int .i64 b] ∧ (Lit.int .i64 a).wf = true ∧ (Lit.int .i64 b).wf = true := by
  obtain ⟨xs, n, rfl, hx, hlen, hxs, hf⟩ := DataW.trod_struct (enc := enc) Tryz.underlying24 h
  have h0 := hf 0 _ rfl
  have h1 := hf 1 _ rfl
  have h3 : Tryz.prog.cellsOf 24 = 2 := by kernel_rfl
  have hc : cs.length = 2 := hlen.trans h3
  obtain ⟨a, b, rfl⟩ := two hc
  have hxl : xs.length = 2 := hxs
  obtain ⟨y0, y1, rfl⟩ := two hxl
  have c0 : Tryz.prog.cellsOf 22 = 1 := by kernel_rfl
  have c1 : Tryz.prog.cellsOf 2 = 1 := by kernel_rfl
  simp only [List.getElem_toArray, List.getElem_cons_zero, List.getElem_cons_succ] at h0 h1
  rw [c0] at h0
  rw [c1] at h1
  have h0' : DataW.trod enc Tryz.prog W base sp held n 22 [a] = some y0 := h0
  have h1' : DataW.trod enc Tryz.prog W base sp held n 2 [b] = some y1 := h1
  obtain ⟨n0, e0, _, w0⟩ := DataW.trod_int Tryz.underlying22 h0'
  obtain ⟨n1, e1, _, w1⟩ := DataW.trod_int Tryz.underlying2 h1'
  obtain rfl := (List.cons.inj e0).1
  obtain rfl := (List.cons.inj e1).1
  exact ⟨n0, n1, rfl, w0, w1⟩
set_option maxRecDepth 100000 in
theorem open_num {b0 : Nat} {v : Value} {d : DataW H} {p : List MemPlace} (hval : Value.okWide Tryz.prog W .any b0 24 v) (h : DataW.Trod enc Tryz.prog W base sp held 24 v d p) :
    ∃ a b : Int, v = .agg #[.int .i64 a, .int .i64 b] ∧ (Lit.int .i64 a).wf = true ∧ (Lit.int .i64 b).wf = true := by
  obtain ⟨cs, hv, hz⟩ := okWide_struct (P := Tryz.prog) Tryz.underlying24 hval
  clear hz hval
  subst hv
  obtain ⟨m, hm⟩ := h
  obtain ⟨a, b, e, wa, wb⟩ := num_of (enc := enc) (cs := cs.toList) (by simpa [Value.cells] using hm)
  refine ⟨a, b, ?_, wa, wb⟩
  congr 1
  exact Array.toList_inj.1 e
end
end Go.Proofs.YthedigbdkjcpfaaGreatDoor.NumArg
