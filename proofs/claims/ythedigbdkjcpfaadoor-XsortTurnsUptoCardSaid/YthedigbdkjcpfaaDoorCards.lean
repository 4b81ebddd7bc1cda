/-
  DERIVED. GIVEN WITH THE SEED: THE CARDS: each row of YthedigbdkjcpfaaDoorRows.lean that lists a variable, with what it lists TIED to the program's text (the seventh form; the later family's looks); each row that meets fmt, with fmt's text TOLD by the authors' own Lean function (tested against real Go, not proved from fmt's source: count such statements apart). THE CARD IS WHAT COUNTS. Prove the row's statement (the work); the ties are given (YthedigbdkjcpfaaDoorTie.lean); close each card by the builder's one call (the guide's Derived/Test/ToyasCard.lean, 'card_holds'). Laid BY PROGRAM, IN A SANDBOX (cutbox-door.mjs). By AI agents, Wed Nov 11 2026. No macro, syntax, notation, axiom, sorry.
-/
import Derived.Test.YthedigbdkjcpfaaDoorRows
import GoSem.ClaimSeven
namespace Go.Proofs.YthedigbdkjcpfaaDoor
namespace Rows

/-- THE TIED CARD OF 'stencillaw13.XsortNumbers'. -/
def xsortNumbersCard : Claim7 := { stood := { row := xsortNumbersRow, standIns := [], harness := (true, "a56d9fbc0539a4f3771483092e30fe0c37bb28c92da04d5456557d9ecb407d11"), looks := true }, kinds := [], alts := [], laidByText := true, laidKinds := [.data, .data, .data, .data, .pinned, .pinned], laidTests := true, laidLooks := .later }
def XsortNumbersCardSaid : Prop := Claim7.holds Tryd.pinned (.plain (OpenSpec.ofChange xsortNumbersSpec)) xsortNumbersCard

/-- THE TIED CARD OF 'stencillaw13.XsortOrders'. -/
def xsortOrdersCard : Claim7 := { stood := { row := xsortOrdersRow, standIns := [], harness := (true, "a56d9fbc0539a4f3771483092e30fe0c37bb28c92da04d5456557d9ecb407d11"), looks := true }, kinds := [], alts := [], laidByText := true, laidKinds := [.data, .data, .data, .data, .pinned, .pinned], laidTests := true, laidLooks := .later }
def XsortOrdersCardSaid : Prop := Claim7.holds Tryd.pinned (.plain (OpenSpec.ofChange xsortOrdersSpec)) xsortOrdersCard

/-- THE TIED CARD OF 'stencillaw13.XsortOnce'. -/
def xsortOnceCard : Claim7 := { stood := { row := xsortOnceRow, standIns := [], harness := (true, "a56d9fbc0539a4f3771483092e30fe0c37bb28c92da04d5456557d9ecb407d11"), looks := true }, kinds := [], alts := [], laidByText := true, laidKinds := [.data, .data, .data, .data, .pinned, .pinned], laidTests := true, laidLooks := .later }
def XsortOnceCardSaid : Prop := Claim7.holds Tryd.pinned (.plain (OpenSpec.ofChange xsortOnceSpec)) xsortOnceCard

/-- THE TIED CARD OF 'stencillaw13.XsortTurns'. -/
def xsortTurnsCard : Claim7 := { stood := { row := xsortTurnsRow, standIns := [], harness := (true, "a56d9fbc0539a4f3771483092e30fe0c37bb28c92da04d5456557d9ecb407d11"), looks := true }, kinds := [], alts := [], laidByText := true, laidKinds := [.data, .data, .data, .data, .pinned, .pinned], laidTests := true, laidLooks := .later }
def XsortTurnsCardSaid : Prop := Claim7.holds Tryd.pinned (.plain (OpenSpec.ofChange xsortTurnsSpec)) xsortTurnsCard

/-- THE TIED CARD OF 'stencillaw13.XsortDown'. -/
def xsortDownCard : Claim7 := { stood := { row := xsortDownRow, standIns := [], harness := (true, "a56d9fbc0539a4f3771483092e30fe0c37bb28c92da04d5456557d9ecb407d11"), looks := true }, kinds := [], alts := [], laidByText := true, laidKinds := [.data, .data, .data, .data, .pinned, .pinned], laidTests := true, laidLooks := .later }
def XsortDownCardSaid : Prop := Claim7.holds Tryd.pinned (.plain (OpenSpec.ofChange xsortDownSpec)) xsortDownCard

/-- THE TIED CARD OF 'stencillaw13.XsortFormats'. -/
def xsortFormatsCard : Claim7 := { stood := { row := xsortFormatsRow, standIns := [], harness := (true, "a56d9fbc0539a4f3771483092e30fe0c37bb28c92da04d5456557d9ecb407d11"), looks := true }, kinds := [], alts := [], laidByText := true, laidKinds := [.data, .data, .data, .data, .sentinel, .sentinel, .pinned, .pinned], laidTests := true, laidLooks := .later }
def XsortFormatsCardSaid : Prop := Claim7.holds Tryd.pinned (.plain (OpenSpec.ofChange xsortFormatsSpec)) xsortFormatsCard

/-- THE TIED CARD OF 'stencillaw13.XsortBack'. -/
def xsortBackCard : Claim7 := { stood := { row := xsortBackRow, standIns := [], harness := (true, "a56d9fbc0539a4f3771483092e30fe0c37bb28c92da04d5456557d9ecb407d11"), looks := true }, kinds := [], alts := [], laidByText := true, laidKinds := [.data, .data, .data, .data, .sentinel, .sentinel, .pinned, .pinned], laidTests := true, laidLooks := .later }
def XsortBackCardSaid : Prop := Claim7.holds Tryd.pinned (.plain (OpenSpec.ofChange xsortBackSpec)) xsortBackCard

/-- THE SECOND FORM's CARD OF 'stencillaw13.XsortNumbers'. -/
def xsortNumbersUptoCard : Claim7 := { stood := { row := xsortNumbersUptoRow, standIns := [], harness := (true, "a56d9fbc0539a4f3771483092e30fe0c37bb28c92da04d5456557d9ecb407d11"), looks := true }, kinds := [], alts := [], laidByText := true, laidKinds := [.data, .data, .data, .data, .pinned, .pinned], laidTests := true, laidLooks := .later }
def XsortNumbersUptoCardSaid : Prop := Claim7.holds Tryd.pinned (.plain (OpenSpec.upto xsortNumbersSpec)) xsortNumbersUptoCard

/-- THE SECOND FORM's CARD OF 'stencillaw13.XsortOrders'. -/
def xsortOrdersUptoCard : Claim7 := { stood := { row := xsortOrdersUptoRow, standIns := [], harness := (true, "a56d9fbc0539a4f3771483092e30fe0c37bb28c92da04d5456557d9ecb407d11"), looks := true }, kinds := [], alts := [], laidByText := true, laidKinds := [.data, .data, .data, .data, .pinned, .pinned], laidTests := true, laidLooks := .later }
def XsortOrdersUptoCardSaid : Prop := Claim7.holds Tryd.pinned (.plain (OpenSpec.upto xsortOrdersSpec)) xsortOrdersUptoCard

/-- THE SECOND FORM's CARD OF 'stencillaw13.XsortOnce'. -/
def xsortOnceUptoCard : Claim7 := { stood := { row := xsortOnceUptoRow, standIns := [], harness := (true, "a56d9fbc0539a4f3771483092e30fe0c37bb28c92da04d5456557d9ecb407d11"), looks := true }, kinds := [], alts := [], laidByText := true, laidKinds := [.data, .data, .data, .data, .pinned, .pinned], laidTests := true, laidLooks := .later }
def XsortOnceUptoCardSaid : Prop := Claim7.holds Tryd.pinned (.plain (OpenSpec.upto xsortOnceSpec)) xsortOnceUptoCard

/-- THE SECOND FORM's CARD OF 'stencillaw13.XsortTurns'. -/
def xsortTurnsUptoCard : Claim7 := { stood := { row := xsortTurnsUptoRow, standIns := [], harness := (true, "a56d9fbc0539a4f3771483092e30fe0c37bb28c92da04d5456557d9ecb407d11"), looks := true }, kinds := [], alts := [], laidByText := true, laidKinds := [.data, .data, .data, .data, .pinned, .pinned], laidTests := true, laidLooks := .later }
def XsortTurnsUptoCardSaid : Prop := Claim7.holds Tryd.pinned (.plain (OpenSpec.upto xsortTurnsSpec)) xsortTurnsUptoCard

/-- THE SECOND FORM's CARD OF 'stencillaw13.XsortDown'. -/
def xsortDownUptoCard : Claim7 := { stood := { row := xsortDownUptoRow, standIns := [], harness := (true, "a56d9fbc0539a4f3771483092e30fe0c37bb28c92da04d5456557d9ecb407d11"), looks := true }, kinds := [], alts := [], laidByText := true, laidKinds := [.data, .data, .data, .data, .pinned, .pinned], laidTests := true, laidLooks := .later }
def XsortDownUptoCardSaid : Prop := Claim7.holds Tryd.pinned (.plain (OpenSpec.upto xsortDownSpec)) xsortDownUptoCard

/-- THE SECOND FORM's CARD OF 'stencillaw13.XsortFormats'. -/
def xsortFormatsUptoCard : Claim7 := { stood := { row := xsortFormatsUptoRow, standIns := [], harness := (true, "a56d9fbc0539a4f3771483092e30fe0c37bb28c92da04d5456557d9ecb407d11"), looks := true }, kinds := [], alts := [], laidByText := true, laidKinds := [.data, .data, .data, .data, .sentinel, .sentinel, .pinned, .pinned], laidTests := true, laidLooks := .later }
def XsortFormatsUptoCardSaid : Prop := Claim7.holds Tryd.pinned (.plain (OpenSpec.upto xsortFormatsSpec)) xsortFormatsUptoCard

/-- THE SECOND FORM's CARD OF 'stencillaw13.XsortBack'. -/
def xsortBackUptoCard : Claim7 := { stood := { row := xsortBackUptoRow, standIns := [], harness := (true, "a56d9fbc0539a4f3771483092e30fe0c37bb28c92da04d5456557d9ecb407d11"), looks := true }, kinds := [], alts := [], laidByText := true, laidKinds := [.data, .data, .data, .data, .sentinel, .sentinel, .pinned, .pinned], laidTests := true, laidLooks := .later }
def XsortBackUptoCardSaid : Prop := Claim7.holds Tryd.pinned (.plain (OpenSpec.upto xsortBackSpec)) xsortBackUptoCard
end Rows
end Go.Proofs.YthedigbdkjcpfaaDoor
