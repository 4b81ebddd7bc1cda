/-
  DERIVED. GIVEN WITH THE SEED: THE CARDS: each row of YtfbmojnndbbojaaDoorRows.lean that lists a variable, with what it lists TIED to the program's text (the seventh form; the later family's looks); each row that meets fmt, with fmt's text TOLD by the authors' own Lean function (tested against real Go, not proved from fmt's source: count such statements apart). THE CARD IS WHAT COUNTS. Prove the row's statement (the work); the ties are given (YtfbmojnndbbojaaDoorTie.lean); close each card by the builder's one call (the guide's Derived/Test/ToyasCard.lean, 'card_holds'). Laid BY PROGRAM, IN A SANDBOX (cutbox-door.mjs). By AI agents, Wed Nov 11 2026. No macro, syntax, notation, axiom, sorry.
-/
import Derived.Test.YtfbmojnndbbojaaDoorRows
import GoSem.ClaimSeven
namespace Go.Proofs.YtfbmojnndbbojaaDoor
namespace Rows

/-- THE TIED CARD OF 'stencillaw02.XnumNear'. -/
def xnumNearCard : Claim7 := { stood := { row := xnumNearRow, standIns := [], harness := (true, "e5b3a2a078fcdf29b74726c0462117e9ab6ff073211799d066bf2b25d2892a70"), looks := false }, kinds := [], alts := [], laidByText := true, laidKinds := [.data, .data, .data, .data, .pinned], laidTests := true, laidLooks := .later }
def XnumNearCardSaid : Prop := Claim7.holds Tryd.pinned (.plain (OpenSpec.ofChange xnumNearSpec)) xnumNearCard

/-- THE TIED CARD OF 'stencillaw02.XnumTurns'. -/
def xnumTurnsCard : Claim7 := { stood := { row := xnumTurnsRow, standIns := [], harness := (true, "e5b3a2a078fcdf29b74726c0462117e9ab6ff073211799d066bf2b25d2892a70"), looks := false }, kinds := [], alts := [], laidByText := true, laidKinds := [.data, .data, .data, .data, .pinned], laidTests := true, laidLooks := .later }
def XnumTurnsCardSaid : Prop := Claim7.holds Tryd.pinned (.plain (OpenSpec.ofChange xnumTurnsSpec)) xnumTurnsCard

/-- THE TIED CARD OF 'stencillaw02.XnumRests'. -/
def xnumRestsCard : Claim7 := { stood := { row := xnumRestsRow, standIns := [], harness := (true, "e5b3a2a078fcdf29b74726c0462117e9ab6ff073211799d066bf2b25d2892a70"), looks := false }, kinds := [], alts := [], laidByText := true, laidKinds := [.data, .data, .data, .data, .pinned], laidTests := true, laidLooks := .later }
def XnumRestsCardSaid : Prop := Claim7.holds Tryd.pinned (.plain (OpenSpec.ofChange xnumRestsSpec)) xnumRestsCard

/-- THE SECOND FORM's CARD OF 'stencillaw02.XnumNear'. -/
def xnumNearUptoCard : Claim7 := { stood := { row := xnumNearUptoRow, standIns := [], harness := (true, "e5b3a2a078fcdf29b74726c0462117e9ab6ff073211799d066bf2b25d2892a70"), looks := false }, kinds := [], alts := [], laidByText := true, laidKinds := [.data, .data, .data, .data, .pinned], laidTests := true, laidLooks := .later }
def XnumNearUptoCardSaid : Prop := Claim7.holds Tryd.pinned (.plain (OpenSpec.upto xnumNearSpec)) xnumNearUptoCard

/-- THE SECOND FORM's CARD OF 'stencillaw02.XnumTurns'. -/
def xnumTurnsUptoCard : Claim7 := { stood := { row := xnumTurnsUptoRow, standIns := [], harness := (true, "e5b3a2a078fcdf29b74726c0462117e9ab6ff073211799d066bf2b25d2892a70"), looks := false }, kinds := [], alts := [], laidByText := true, laidKinds := [.data, .data, .data, .data, .pinned], laidTests := true, laidLooks := .later }
def XnumTurnsUptoCardSaid : Prop := Claim7.holds Tryd.pinned (.plain (OpenSpec.upto xnumTurnsSpec)) xnumTurnsUptoCard

/-- THE SECOND FORM's CARD OF 'stencillaw02.XnumRests'. -/
def xnumRestsUptoCard : Claim7 := { stood := { row := xnumRestsUptoRow, standIns := [], harness := (true, "e5b3a2a078fcdf29b74726c0462117e9ab6ff073211799d066bf2b25d2892a70"), looks := false }, kinds := [], alts := [], laidByText := true, laidKinds := [.data, .data, .data, .data, .pinned], laidTests := true, laidLooks := .later }
def XnumRestsUptoCardSaid : Prop := Claim7.holds Tryd.pinned (.plain (OpenSpec.upto xnumRestsSpec)) xnumRestsUptoCard
end Rows
end Go.Proofs.YtfbmojnndbbojaaDoor
