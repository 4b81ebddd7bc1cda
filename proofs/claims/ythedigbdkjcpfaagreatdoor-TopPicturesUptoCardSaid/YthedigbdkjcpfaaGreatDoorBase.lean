/- What a row's premises give to the walks of this seat: the library's tables as laid, a cell that holds some number; a world for the witness. Plain. -/
import Derived.Test.YthedigbdkjcpfaaGreatDoorCards
import Derived.Test.YthedigbdkjcpfaaGreatDoorTie
import Derived.Test.YthedigbdkjcpfaaGreatDoorLaid
import Derived.Test.YthedigbdkjcpfaaGreatDoorShelf
import Derived.Lib.LaidU8
import Derived.Lib.LaidTab
import Derived.WalkKit
import Derived.ProofKit
import Derived.OpenShut
import Derived.ShutString
import Derived.SizedLaws
import Derived.Deep.DeepHandedRow
import Derived.Deep.DeepWitnessRowRef
namespace Go.Proofs.YthedigbdkjcpfaaGreatDoor.Base
open Go.RowKit Go.ChangeShapes Go.WideShapes Go.ChangeAt

theorem own : ownKnob Tryz.prog.godebug = none := by kernel_rfl
theorem first_data : Rows.laid_unicode_utf8_first = Lib.firstData := by kernel_rfl
theorem accept_data : (Rows.laid_unicode_utf8_acceptRanges (H := Unit)) = Lib.acceptData := by kernel_rfl
theorem extra : U8Extra Tryz.prog Tryz.lays260_ren :=
  { n3 := by kernel_rfl, n4 := by kernel_rfl, y3 := by kernel_rfl, y4 := by kernel_rfl, c5 := by kernel_rfl, c119 := by kernel_rfl, c138 := by kernel_rfl }
/-- a table of numbers that a row's premises read -/
theorem tabIs_of_reads {P : Program} {W : World} {name : String} {k : IntKind} {zs : List Int} {g : Nat} {t e : TypeId} {n : Nat}
    (hg : P.globalNamed name = some g) (hty : (P.globals[g]?).map (·.type) = some t) (ht : P.underlying t = some (.array n e)) (he : P.underlying e = some (.int k)) (hce : P.cellsOf e = 1) (hct : P.cellsOf t = n)
    (h : Lib.VarReads P W name (Lib.tabData k zs)) : Lib.TabIs P W name k zs := by
  obtain ⟨g', t', cs, fuel, p, hg', ht', hvar, hd⟩ := h
  obtain rfl := Option.some.inj (hg.symm.trans hg')
  obtain rfl := Option.some.inj (hty.symm.trans ht')
  unfold Lib.TabIs
  rw [hvar]
  have := Lib.cells_of_tab ht he hce hct hd
  rw [← this]
theorem pow10_data : (Rows.laid_internal_strconv_uint64pow10 (H := Unit)) = Lib.tabData .u64 Lib.pow10Tab := by kernel_rfl
/-- an error's variable holds one -/
theorem errVar_of_reads {P : Program} {W : World} {name nm : String} {d : DataW Unit} {g t : Nat} {ms}
    (hg : P.globalNamed name = some g) (hty : (P.globals[g]?).map (·.type) = some t) (ht : P.underlying t = some (.interface ms))
    (h : Lib.VarReads P W name (.iface nm d)) : ∃ tp pv, W.cell? ⟨g, 0, none⟩ = some (.iface tp pv) := by
  obtain ⟨g', t', cs, fuel, p, hg', ht', hvar, hd⟩ := h
  obtain rfl := Option.some.inj (hg.symm.trans hg')
  obtain rfl := Option.some.inj (hty.symm.trans ht')
  have h0 := World.var?_cell hg hvar 0
  cases fuel with
  | zero => simp [DataW.trod] at hd
  | succ fuel =>
    unfold DataW.trod at hd
    rw [ht] at hd
    obtain ⟨L, hL⟩ : ∃ L, cs.toList = L := ⟨_, rfl⟩
    rw [hL] at hd
    have key : ∃ u v, L = [.iface u v] := by
      split at hd
      all_goals first
        | exact ⟨_, _, rfl⟩
        | (cases hd; done)
        | (rename_i e1; cases e1; done)
        | (rename_i e1 _; cases e1; done)
        | (rename_i e1 _ _; cases e1; done)
        | simp at hd
    obtain ⟨u, v, rfl⟩ := key
    refine ⟨u, v, ?_⟩
    rw [h0, ← Array.getElem?_toList, hL]
    rfl
theorem laid_of {l : List (String × DataW Unit)} {W : World} (h : laidMet Tryz.prog l W) (h1 : ("unicode/utf8.first", Rows.laid_unicode_utf8_first) ∈ l) (h2 : ("unicode/utf8.acceptRanges", Rows.laid_unicode_utf8_acceptRanges) ∈ l) (hsh : W.ShapedOpen Tryz.prog) (h3 : ("internal/strconv.uint64pow10", Rows.laid_internal_strconv_uint64pow10) ∈ l) (h4 : ("strconv.ErrRange", Rows.laid_strconv_ErrRange) ∈ l) : Print.Laid W := by
  constructor
  · have r1 := Lib.laidMet.reads h h1
    have r2 := Lib.laidMet.reads h h2
    rw [first_data] at r1
    rw [accept_data] at r2
    exact utf8Tabs_of_reads Tryz.lays260 extra r1 r2
  · exact cell_of_shapedOpen_int (zero := #[.int .i64 0]) (t := 3) hsh (of_decide_eq_true (by kernel_rfl)) (by kernel_rfl) rfl (by kernel_rfl) (by kernel_rfl) Tryz.underlying3
  · have r3 := Lib.laidMet.reads h h3
    rw [pow10_data] at r3
    exact tabIs_of_reads (g := 2) (t := 141) (e := 39) (n := 20) (by kernel_rfl) (by kernel_rfl) (by kernel_rfl) (by kernel_rfl) (by kernel_rfl) (by kernel_rfl) r3
  · exact errVar_of_reads (g := 5) (t := 59) (by kernel_rfl) (by kernel_rfl) Tryz.underlying59 (Lib.laidMet.reads h h4)

theorem small {H : Type} {l : List (DataW H)} (hk : Rows.uptoSmall H l = true) : Rows.uptoBulkAll l ≤ 1048576 := by
  have h : Rows.uptoBulkAll l ≤ 1048576 := of_decide_eq_true hk
  exact h
/-- A WORLD FOR THE WITNESSES: the settled one, the two tables holding what their initialisers lay. -/
def layCells (cs : Array Value) : Obj → Obj
  | .cells _ t frozen => .cells cs t frozen
  | o => o
def firstCells : Array Value := (Lib.firstTab.map fun z => Value.int .u8 z).toArray
def acceptCells : Array Value := #[.int .u8 128, .int .u8 191, .int .u8 160, .int .u8 191, .int .u8 128, .int .u8 159, .int .u8 144, .int .u8 191, .int .u8 128, .int .u8 143, .int .u8 0, .int .u8 0, .int .u8 0, .int .u8 0, .int .u8 0, .int .u8 0, .int .u8 0, .int .u8 0, .int .u8 0, .int .u8 0, .int .u8 0, .int .u8 0, .int .u8 0, .int .u8 0, .int .u8 0, .int .u8 0, .int .u8 0, .int .u8 0, .int .u8 0, .int .u8 0, .int .u8 0, .int .u8 0]
/-- the cells of a table's data -/
def leaf : DataW Unit → Value
  | .lit (.int k n) => .int k n
  | _ => .int .u8 0
def tabCells : DataW Unit → Array Value
  | .agg l => (l.map leaf).toArray
  | _ => #[]
noncomputable def laidWorld (os : Os) : World :=
  let h : Array Obj := (((((World.holding Tryz.prog os ⟨#[], #[], []⟩).heap.modify 0 (layCells firstCells)).modify 1 (layCells acceptCells)).modify 6 (layCells (tabCells Rows.laid_math_bits_deBruijn32tab))).modify 7 (layCells (tabCells Rows.laid_math_bits_deBruijn64tab))).modify 2 (layCells (tabCells Rows.laid_internal_strconv_uint64pow10))
  let n : Nat := (World.holding Tryz.prog os ⟨#[], #[], []⟩).heap.size
  { World.holding Tryz.prog os ⟨#[], #[], []⟩ with heap := (((h.modify 5 (layCells #[.iface 159 (.pointer (some ⟨n, 0, none⟩))])).modify 4 (layCells #[.iface 159 (.pointer (some ⟨n + 1, 0, none⟩))])).push (.cells #[.string ⟨#[118, 97, 108, 117, 101, 32, 111, 117, 116, 32, 111, 102, 32, 114, 97, 110, 103, 101]⟩] 161 (0, 0))).push (.cells #[.string ⟨#[105, 110, 118, 97, 108, 105, 100, 32, 115, 121, 110, 116, 97, 120]⟩] 161 (0, 0)) }
def laidList : List (String × DataW Unit) := [("math/bits.deBruijn32tab", Rows.laid_math_bits_deBruijn32tab), ("math/bits.deBruijn64tab", Rows.laid_math_bits_deBruijn64tab), ("internal/strconv.uint64pow10", Rows.laid_internal_strconv_uint64pow10), ("unicode/utf8.acceptRanges", Rows.laid_unicode_utf8_acceptRanges), ("strconv.ErrRange", Rows.laid_strconv_ErrRange), ("strconv.ErrSyntax", Rows.laid_strconv_ErrSyntax), ("unicode/utf8.first", Rows.laid_unicode_utf8_first)]
theorem laid_met (os : Os) (args : Array Value) : laidMet Tryz.prog laidList ((laidWorld os).forCall (fun _ _ => 0) ⟨#[], args, []⟩).memory :=
  laidMet_of_run' 8 (by kernel_rfl) (by kernel_rfl)
theorem vars_ok (os : Os) (args : Array Value) : ((laidWorld os).forCall (fun _ _ => 0) ⟨#[], args, []⟩).variablesRefB Tryz.prog = true := by kernel_rfl
theorem rest_ok (os : Os) (args : Array Value) : (((laidWorld os).forCall (fun _ _ => 0) ⟨#[], args, []⟩).heap.toList.drop Tryz.prog.globals.size).take ((begin Tryz.prog (fun _ _ => 0) default).world.heap.size - Tryz.prog.globals.size) =
      (begin Tryz.prog (fun _ _ => 0) default).world.heap.toList.drop Tryz.prog.globals.size := by kernel_rfl
end Go.Proofs.YthedigbdkjcpfaaGreatDoor.Base
