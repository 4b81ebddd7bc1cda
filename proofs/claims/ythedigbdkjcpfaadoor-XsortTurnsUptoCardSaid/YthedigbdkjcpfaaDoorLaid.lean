/- What each contract of this seat takes of the world beside its arguments: the library's tables as laid, one cell that holds some number. Plain. -/
import Derived.Test.YthedigbdkjcpfaaDoorProg
import Derived.Test.YthedigbdkjcpfaaDoorWWords
import Derived.Shelf.Unicode.DecodeSlow
import Derived.Shelf.Vars
import Derived.Lib.OthersKept
import Derived.Lib.TrimUEq
import Derived.Lib.TrimU
import Derived.Lib.MapLaws
import Derived.Lib.Hide
import Derived.Laws.RangeAny
import Derived.Lib.AppendIntMem
import Derived.Shelf.Strings.CaseAny
namespace Go.Proofs.YthedigbdkjcpfaaDoor.Print
open Go.RowKit Go.Proofs.YthedigbdkjcpfaaDoorW.PrintWords

/-- The tables of unicode/utf8 lie as their initialisers lay them; internal/bytealg.MaxLen holds some number. -/
structure Laid (w : World) : Prop where
  tabs : Lib.Utf8Tabs 2 3 w
  maxLen : ∃ m, w.cell? ⟨1, 0, none⟩ = some (.int .i64 m)
  pow10 : Lib.TabIs Tryd.prog w "internal/strconv.uint64pow10" .u64 Lib.pow10Tab
  caseV : Lib.CaseVar 0 Lib.caseA w
theorem cell_old {w w' : World} {a : Addr} {v : Value} (h : w.cell? a = some v) (hb : Below w.heap.size w w') : w'.cell? a = some v := (hb.cell (World.block_lt_of_cell? w _ h)).trans h
theorem Laid.below {w w' : World} (h : Laid w) (hb : Below w.heap.size w w') : Laid w' := by
  constructor
  · exact Utf8Tabs_below h.tabs hb
  · obtain ⟨m, hm⟩ := h.maxLen; exact ⟨m, cell_old hm hb⟩
  · exact (Lib.tabBelow_of_tabIs h.pow10) w' hb
  · exact Lib.CaseVar_below h.caseV hb
theorem Laid.drewN {w : World} (h : Laid w) (n : Nat) : Laid (w.drewN n) := h.below (pw_below_drewN (Below.refl _ _) n)
theorem Laid.drew {w : World} (h : Laid w) : Laid w.drew := h.below (below_drew (Below.refl _ _))
/-- The rest's decoder is the text's, at its place. -/
theorem decodeGo_at (s : ByteArray) (pos : Nat) (h : pos < s.size) : Lib.decodeGo (s.extract pos s.size) = Utf8.decode s pos := by
  have hx : (s.extract pos s.size).data.toList = s.data.toList.drop pos := by
    rw [Lib.extract_data, List.take_of_length_le (by rw [List.length_drop, ← Lib.size_eq]; omega)]
  have hsz : (s.extract pos s.size).size ≠ 0 := by rw [Lib.size_eq, hx, List.length_drop, ← Lib.size_eq]; omega
  unfold Lib.decodeGo
  rw [if_neg hsz, ← Lib.decodeL_drop s pos, ← hx]
  rfl
theorem drop_ne (s : ByteArray) (pos : Nat) (h : pos < s.size) : s.data.toList.drop pos ≠ [] := by
  intro e
  have := congrArg List.length e
  rw [List.length_drop, ← Lib.size_eq, List.length_nil] at this
  omega
theorem drop_nil (s : ByteArray) (pos : Nat) (h : ¬ pos < s.size) : s.data.toList.drop pos = [] :=
  List.drop_of_length_le (by rw [← Lib.size_eq]; omega)
/-- What a decoder hands back at a place. -/
theorem decode_facts (s : ByteArray) (pos : Nat) : ∃ R N : Nat, Utf8.decode s pos = (R, N) ∧ Lib.decodeL (s.data.toList.drop pos) = (R, N) ∧ 1 ≤ N ∧ R ≤ 1114111 := by
  rcases h : Utf8.decode s pos with ⟨R, N⟩
  have e := Lib.decodeL_drop s pos
  have h1 := Lib.decodeL_width (s.data.toList.drop pos)
  have h2 := Lib.decodeL_rune (s.data.toList.drop pos)
  rw [e, h] at h1 h2
  exact ⟨R, N, rfl, e.trans h, h1, h2⟩

/-- A string's iterator lies on behind a call that leaves all that lay. -/
theorem iter_kept {w w' : World} {k : Nat} {s : ByteArray} {pos : Nat} (h : w.heap[k]? = some (.stringIter s pos)) (hb : Below w.heap.size w w') : w'.heap[k]? = some (.stringIter s pos) :=
  (hb.block k (Array.getElem?_eq_some_iff.1 h).1).trans h
theorem iter_pos {w : World} {k : Nat} {s : ByteArray} {pos : Nat} (h : w.heap[k]? = some (.stringIter s pos)) : w.iterPos k = pos := by simp [World.iterPos, h]
theorem below_from {B : Nat} {w w1 w2 : World} (h : Below B w w1) (hB : B ≤ w1.heap.size) (h2 : Below w1.heap.size w1 w2) : Below B w w2 := h.trans (h2.mono hB)

theorem _root_.Go.RowKit.Below.then_ {w w1 w2 : World} (h : Below w.heap.size w w1) (h2 : Below w1.heap.size w1 w2) : Below w.heap.size w w2 := below_from h h.size h2
theorem decode_in (s : ByteArray) (pos R N : Nat) (hp : pos < s.size) (h : Lib.decodeL (s.data.toList.drop pos) = (R, N)) : pos + N ≤ s.size := by
  have := Lib.decodeL_le _ (drop_ne s pos hp)
  rw [h, List.length_drop, ← Lib.size_eq] at this
  simp only at this
  omega
end Go.Proofs.YthedigbdkjcpfaaDoor.Print
