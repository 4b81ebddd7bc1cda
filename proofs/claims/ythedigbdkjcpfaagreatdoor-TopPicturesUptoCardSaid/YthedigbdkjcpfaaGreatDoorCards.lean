/-
  DERIVED. GIVEN WITH THE SEED: THE CARDS: each row of YthedigbdkjcpfaaGreatDoorRows.lean that lists a variable, with what it lists TIED to the program's text (the seventh form; the later family's looks); each row that meets fmt, with fmt's text TOLD by the authors' own Lean function (tested against real Go, not proved from fmt's source: count such statements apart). THE CARD IS WHAT COUNTS. Prove the row's statement (the work); the ties are given (YthedigbdkjcpfaaGreatDoorTie.lean); close each card by the builder's one call (the guide's Derived/Test/ToyasCard.lean, 'card_holds'). Laid BY PROGRAM, IN A SANDBOX (cutbox-door.mjs). By AI agents, Wed Nov 11 2026. No macro, syntax, notation, axiom, sorry.
-/
import Derived.Test.YthedigbdkjcpfaaGreatDoorRows
import GoSem.ClaimSeven
namespace Go.Proofs.YthedigbdkjcpfaaGreatDoor
namespace Rows

/-- THE TIED CARD OF 'stenciltop.TopDigits'. -/
def topDigitsCard : Claim7 := { stood := { row := topDigitsRow, standIns := [], harness := (true, "b745a398509829d402cc6fd39eff2e4ab1d4dc107ebc22e4ef7992502d31c0b1"), looks := true }, kinds := [], alts := [], laidByText := true, laidKinds := [.data, .data, .data, .data, .sentinel, .sentinel, .pinned], laidTests := true, laidLooks := .later }
def TopDigitsCardSaid : Prop := Claim7.holds Tryz.pinned (.plain (OpenSpec.ofChange topDigitsSpec)) topDigitsCard

/-- THE TIED CARD OF 'stenciltop.TopPictures'. -/
def topPicturesCard : Claim7 := { stood := { row := topPicturesRow, standIns := [], harness := (true, "b745a398509829d402cc6fd39eff2e4ab1d4dc107ebc22e4ef7992502d31c0b1"), looks := true }, kinds := [], alts := [], laidByText := true, laidKinds := [.data, .data, .data, .data, .sentinel, .sentinel, .pinned], laidTests := true, laidLooks := .later }
def TopPicturesCardSaid : Prop := Claim7.holds Tryz.pinned (.plain (OpenSpec.ofChange topPicturesSpec)) topPicturesCard

/-- THE SECOND FORM's CARD OF 'stenciltop.TopDigits'. -/
def topDigitsUptoCard : Claim7 := { stood := { row := topDigitsUptoRow, standIns := [], harness := (true, "b745a398509829d402cc6fd39eff2e4ab1d4dc107ebc22e4ef7992502d31c0b1"), looks := true }, kinds := [], alts := [], laidByText := true, laidKinds := [.data, .data, .data, .data, .sentinel, .sentinel, .pinned], laidTests := true, laidLooks := .later }
def TopDigitsUptoCardSaid : Prop := Claim7.holds Tryz.pinned (.plain (OpenSpec.upto topDigitsSpec)) topDigitsUptoCard

/-- THE SECOND FORM's CARD OF 'stenciltop.TopPictures'. -/
def topPicturesUptoCard : Claim7 := { stood := { row := topPicturesUptoRow, standIns := [], harness := (true, "b745a398509829d402cc6fd39eff2e4ab1d4dc107ebc22e4ef7992502d31c0b1"), looks := true }, kinds := [], alts := [], laidByText := true, laidKinds := [.data, .data, .data, .data, .sentinel, .sentinel, .pinned], laidTests := true, laidLooks := .later }
def TopPicturesUptoCardSaid : Prop := Claim7.holds Tryz.pinned (.plain (OpenSpec.upto topPicturesSpec)) topPicturesUptoCard
end Rows
end Go.Proofs.YthedigbdkjcpfaaGreatDoor
