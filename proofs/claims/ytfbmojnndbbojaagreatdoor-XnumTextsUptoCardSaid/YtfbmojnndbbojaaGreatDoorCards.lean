/-
  DERIVED. GIVEN WITH THE SEED: THE CARDS: each row of YtfbmojnndbbojaaGreatDoorRows.lean that lists a variable, with what it lists TIED to the program's text (the seventh form; the later family's looks); each row that meets fmt, with fmt's text TOLD by the authors' own Lean function (tested against real Go, not proved from fmt's source: count such statements apart). THE CARD IS WHAT COUNTS. Prove the row's statement (the work); the ties are given (YtfbmojnndbbojaaGreatDoorTie.lean); close each card by the builder's one call (the guide's Derived/Test/ToyasCard.lean, 'card_holds'). Laid BY PROGRAM, IN A SANDBOX (cutbox-door.mjs). By AI agents, Wed Nov 11 2026. No macro, syntax, notation, axiom, sorry.
-/
import Derived.Test.YtfbmojnndbbojaaGreatDoorRows
import GoSem.ClaimSeven
namespace Go.Proofs.YtfbmojnndbbojaaGreatDoor
namespace Rows

/-- THE TIED CARD OF 'stenciltop.TopDigits'. -/
def topDigitsCard : Claim7 := { stood := { row := topDigitsRow, standIns := [], harness := (true, "d1264b42f19efeefa24fdb155571ee5b045cbc5315714f4221188cbcc2349efa"), looks := true }, kinds := [], alts := [], laidByText := true, laidKinds := [.data, .data, .data, .data, .sentinel, .sentinel, .pinned], laidTests := true, laidLooks := .later }
def TopDigitsCardSaid : Prop := Claim7.holds Tryz.pinned (.plain (OpenSpec.ofChange topDigitsSpec)) topDigitsCard

/-- THE TIED CARD OF 'stenciltop.TopPictures'. -/
def topPicturesCard : Claim7 := { stood := { row := topPicturesRow, standIns := [], harness := (true, "d1264b42f19efeefa24fdb155571ee5b045cbc5315714f4221188cbcc2349efa"), looks := true }, kinds := [], alts := [], laidByText := true, laidKinds := [.data, .data, .data, .data, .sentinel, .sentinel, .pinned], laidTests := true, laidLooks := .later }
def TopPicturesCardSaid : Prop := Claim7.holds Tryz.pinned (.plain (OpenSpec.ofChange topPicturesSpec)) topPicturesCard

/-- THE TIED CARD OF 'stencillaw02.XnumReckons'. -/
def xnumReckonsCard : Claim7 := { stood := { row := xnumReckonsRow, standIns := [], harness := (true, "d1264b42f19efeefa24fdb155571ee5b045cbc5315714f4221188cbcc2349efa"), looks := true }, kinds := [], alts := [], laidByText := true, laidKinds := [.data, .data, .data, .data, .pinned], laidTests := true, laidLooks := .later }
def XnumReckonsCardSaid : Prop := Claim7.holds Tryz.pinned (.plain (OpenSpec.ofChange xnumReckonsSpec)) xnumReckonsCard

/-- THE TIED CARD OF 'stencillaw02.XnumChains'. -/
def xnumChainsCard : Claim7 := { stood := { row := xnumChainsRow, standIns := [], harness := (true, "d1264b42f19efeefa24fdb155571ee5b045cbc5315714f4221188cbcc2349efa"), looks := true }, kinds := [], alts := [], laidByText := true, laidKinds := [.data, .data, .data, .data, .pinned], laidTests := true, laidLooks := .later }
def XnumChainsCardSaid : Prop := Claim7.holds Tryz.pinned (.plain (OpenSpec.ofChange xnumChainsSpec)) xnumChainsCard

/-- THE TIED CARD OF 'stencillaw02.XnumWhole'. -/
def xnumWholeCard : Claim7 := { stood := { row := xnumWholeRow, standIns := [], harness := (true, "d1264b42f19efeefa24fdb155571ee5b045cbc5315714f4221188cbcc2349efa"), looks := true }, kinds := [], alts := [], laidByText := true, laidKinds := [.data, .data, .data, .data, .pinned], laidTests := true, laidLooks := .later }
def XnumWholeCardSaid : Prop := Claim7.holds Tryz.pinned (.plain (OpenSpec.ofChange xnumWholeSpec)) xnumWholeCard

/-- THE TIED CARD OF 'stencillaw02.XnumOrders'. -/
def xnumOrdersCard : Claim7 := { stood := { row := xnumOrdersRow, standIns := [], harness := (true, "d1264b42f19efeefa24fdb155571ee5b045cbc5315714f4221188cbcc2349efa"), looks := true }, kinds := [], alts := [], laidByText := true, laidKinds := [.data, .data, .data, .data, .pinned], laidTests := true, laidLooks := .later }
def XnumOrdersCardSaid : Prop := Claim7.holds Tryz.pinned (.plain (OpenSpec.ofChange xnumOrdersSpec)) xnumOrdersCard

/-- THE TIED CARD OF 'stencillaw02.XnumTexts'. -/
def xnumTextsCard : Claim7 := { stood := { row := xnumTextsRow, standIns := [], harness := (true, "d1264b42f19efeefa24fdb155571ee5b045cbc5315714f4221188cbcc2349efa"), looks := true }, kinds := [], alts := [], laidByText := true, laidKinds := [.data, .data, .data, .data, .sentinel, .sentinel, .pinned], laidTests := true, laidLooks := .later }
def XnumTextsCardSaid : Prop := Claim7.holds Tryz.pinned (.plain (OpenSpec.ofChange xnumTextsSpec)) xnumTextsCard

/-- THE TIED CARD OF 'stencillaw02.XnumBack'. -/
def xnumBackCard : Claim7 := { stood := { row := xnumBackRow, standIns := [], harness := (true, "d1264b42f19efeefa24fdb155571ee5b045cbc5315714f4221188cbcc2349efa"), looks := true }, kinds := [], alts := [], laidByText := true, laidKinds := [.data, .data, .data, .data, .sentinel, .sentinel, .pinned], laidTests := true, laidLooks := .later }
def XnumBackCardSaid : Prop := Claim7.holds Tryz.pinned (.plain (OpenSpec.ofChange xnumBackSpec)) xnumBackCard

/-- THE SECOND FORM's CARD OF 'stenciltop.TopDigits'. -/
def topDigitsUptoCard : Claim7 := { stood := { row := topDigitsUptoRow, standIns := [], harness := (true, "d1264b42f19efeefa24fdb155571ee5b045cbc5315714f4221188cbcc2349efa"), looks := true }, kinds := [], alts := [], laidByText := true, laidKinds := [.data, .data, .data, .data, .sentinel, .sentinel, .pinned], laidTests := true, laidLooks := .later }
def TopDigitsUptoCardSaid : Prop := Claim7.holds Tryz.pinned (.plain (OpenSpec.upto topDigitsSpec)) topDigitsUptoCard

/-- THE SECOND FORM's CARD OF 'stenciltop.TopPictures'. -/
def topPicturesUptoCard : Claim7 := { stood := { row := topPicturesUptoRow, standIns := [], harness := (true, "d1264b42f19efeefa24fdb155571ee5b045cbc5315714f4221188cbcc2349efa"), looks := true }, kinds := [], alts := [], laidByText := true, laidKinds := [.data, .data, .data, .data, .sentinel, .sentinel, .pinned], laidTests := true, laidLooks := .later }
def TopPicturesUptoCardSaid : Prop := Claim7.holds Tryz.pinned (.plain (OpenSpec.upto topPicturesSpec)) topPicturesUptoCard

/-- THE SECOND FORM's CARD OF 'stencillaw02.XnumReckons'. -/
def xnumReckonsUptoCard : Claim7 := { stood := { row := xnumReckonsUptoRow, standIns := [], harness := (true, "d1264b42f19efeefa24fdb155571ee5b045cbc5315714f4221188cbcc2349efa"), looks := true }, kinds := [], alts := [], laidByText := true, laidKinds := [.data, .data, .data, .data, .pinned], laidTests := true, laidLooks := .later }
def XnumReckonsUptoCardSaid : Prop := Claim7.holds Tryz.pinned (.plain (OpenSpec.upto xnumReckonsSpec)) xnumReckonsUptoCard

/-- THE SECOND FORM's CARD OF 'stencillaw02.XnumChains'. -/
def xnumChainsUptoCard : Claim7 := { stood := { row := xnumChainsUptoRow, standIns := [], harness := (true, "d1264b42f19efeefa24fdb155571ee5b045cbc5315714f4221188cbcc2349efa"), looks := true }, kinds := [], alts := [], laidByText := true, laidKinds := [.data, .data, .data, .data, .pinned], laidTests := true, laidLooks := .later }
def XnumChainsUptoCardSaid : Prop := Claim7.holds Tryz.pinned (.plain (OpenSpec.upto xnumChainsSpec)) xnumChainsUptoCard

/-- THE SECOND FORM's CARD OF 'stencillaw02.XnumWhole'. -/
def xnumWholeUptoCard : Claim7 := { stood := { row := xnumWholeUptoRow, standIns := [], harness := (true, "d1264b42f19efeefa24fdb155571ee5b045cbc5315714f4221188cbcc2349efa"), looks := true }, kinds := [], alts := [], laidByText := true, laidKinds := [.data, .data, .data, .data, .pinned], laidTests := true, laidLooks := .later }
def XnumWholeUptoCardSaid : Prop := Claim7.holds Tryz.pinned (.plain (OpenSpec.upto xnumWholeSpec)) xnumWholeUptoCard

/-- THE SECOND FORM's CARD OF 'stencillaw02.XnumOrders'. -/
def xnumOrdersUptoCard : Claim7 := { stood := { row := xnumOrdersUptoRow, standIns := [], harness := (true, "d1264b42f19efeefa24fdb155571ee5b045cbc5315714f4221188cbcc2349efa"), looks := true }, kinds := [], alts := [], laidByText := true, laidKinds := [.data, .data, .data, .data, .pinned], laidTests := true, laidLooks := .later }
def XnumOrdersUptoCardSaid : Prop := Claim7.holds Tryz.pinned (.plain (OpenSpec.upto xnumOrdersSpec)) xnumOrdersUptoCard

/-- THE SECOND FORM's CARD OF 'stencillaw02.XnumTexts'. -/
def xnumTextsUptoCard : Claim7 := { stood := { row := xnumTextsUptoRow, standIns := [], harness := (true, "d1264b42f19efeefa24fdb155571ee5b045cbc5315714f4221188cbcc2349efa"), looks := true }, kinds := [], alts := [], laidByText := true, laidKinds := [.data, .data, .data, .data, .sentinel, .sentinel, .pinned], laidTests := true, laidLooks := .later }
def XnumTextsUptoCardSaid : Prop := Claim7.holds Tryz.pinned (.plain (OpenSpec.upto xnumTextsSpec)) xnumTextsUptoCard

/-- THE SECOND FORM's CARD OF 'stencillaw02.XnumBack'. -/
def xnumBackUptoCard : Claim7 := { stood := { row := xnumBackUptoRow, standIns := [], harness := (true, "d1264b42f19efeefa24fdb155571ee5b045cbc5315714f4221188cbcc2349efa"), looks := true }, kinds := [], alts := [], laidByText := true, laidKinds := [.data, .data, .data, .data, .sentinel, .sentinel, .pinned], laidTests := true, laidLooks := .later }
def XnumBackUptoCardSaid : Prop := Claim7.holds Tryz.pinned (.plain (OpenSpec.upto xnumBackSpec)) xnumBackUptoCard
end Rows
end Go.Proofs.YtfbmojnndbbojaaGreatDoor
