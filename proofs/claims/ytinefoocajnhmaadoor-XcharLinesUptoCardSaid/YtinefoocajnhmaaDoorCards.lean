/-
  DERIVED. GIVEN WITH THE SEED: THE CARDS: each row of YtinefoocajnhmaaDoorRows.lean that lists a variable, with what it lists TIED to the program's text (the seventh form; the later family's looks); each row that meets fmt, with fmt's text TOLD by the authors' own Lean function (tested against real Go, not proved from fmt's source: count such statements apart). THE CARD IS WHAT COUNTS. Prove the row's statement (the work); the ties are given (YtinefoocajnhmaaDoorTie.lean); close each card by the builder's one call (the guide's Derived/Test/ToyasCard.lean, 'card_holds'). Laid BY PROGRAM, IN A SANDBOX (cutbox-door.mjs). By AI agents, Wed Nov 11 2026. No macro, syntax, notation, axiom, sorry.
-/
import Derived.Test.YtinefoocajnhmaaDoorRows
import GoSem.ClaimSeven
namespace Go.Proofs.YtinefoocajnhmaaDoor
namespace Rows

/-- THE TIED CARD OF 'stencillaw05.XplexBlanks'. -/
def xplexBlanksCard : Claim7 := { stood := { row := xplexBlanksRow, standIns := [], harness := (true, "97cecc16f99f8f5ffa94c0e13c702567c96039b26ac0c3a99843a05905076f18"), looks := false }, kinds := [], alts := [], laidByText := true, laidKinds := [.data, .pinned], laidTests := true, laidLooks := .later }
def XplexBlanksCardSaid : Prop := Claim7.holds Tryd.pinned (.plain (OpenSpec.ofChange xplexBlanksSpec)) xplexBlanksCard

/-- THE TIED CARD OF 'stencillaw05.XplexNames'. -/
def xplexNamesCard : Claim7 := { stood := { row := xplexNamesRow, standIns := [], harness := (true, "97cecc16f99f8f5ffa94c0e13c702567c96039b26ac0c3a99843a05905076f18"), looks := false }, kinds := [], alts := [], laidByText := true, laidKinds := [.data, .pinned], laidTests := true, laidLooks := .later }
def XplexNamesCardSaid : Prop := Claim7.holds Tryd.pinned (.plain (OpenSpec.ofChange xplexNamesSpec)) xplexNamesCard

/-- THE TIED CARD OF 'stencillaw05.XplexPlaces'. -/
def xplexPlacesCard : Claim7 := { stood := { row := xplexPlacesRow, standIns := [], harness := (true, "97cecc16f99f8f5ffa94c0e13c702567c96039b26ac0c3a99843a05905076f18"), looks := false }, kinds := [], alts := [], laidByText := true, laidKinds := [.data, .pinned], laidTests := true, laidLooks := .later }
def XplexPlacesCardSaid : Prop := Claim7.holds Tryd.pinned (.plain (OpenSpec.ofChange xplexPlacesSpec)) xplexPlacesCard

/-- THE TIED CARD OF 'stencillaw05.XplexLiterals'. -/
def xplexLiteralsCard : Claim7 := { stood := { row := xplexLiteralsRow, standIns := [], harness := (true, "97cecc16f99f8f5ffa94c0e13c702567c96039b26ac0c3a99843a05905076f18"), looks := false }, kinds := [], alts := [], laidByText := true, laidKinds := [.data, .pinned], laidTests := true, laidLooks := .later }
def XplexLiteralsCardSaid : Prop := Claim7.holds Tryd.pinned (.plain (OpenSpec.ofChange xplexLiteralsSpec)) xplexLiteralsCard

/-- THE TIED CARD OF 'stencillaw01.XcharDecodes'. -/
def xcharDecodesCard : Claim7 := { stood := { row := xcharDecodesRow, standIns := [], harness := (true, "97cecc16f99f8f5ffa94c0e13c702567c96039b26ac0c3a99843a05905076f18"), looks := false }, kinds := [], alts := [], laidByText := true, laidKinds := [.data, .pinned], laidTests := true, laidLooks := .later }
def XcharDecodesCardSaid : Prop := Claim7.holds Tryd.pinned (.plain (OpenSpec.ofChange xcharDecodesSpec)) xcharDecodesCard

/-- THE TIED CARD OF 'stencillaw01.XcharKinds'. -/
def xcharKindsCard : Claim7 := { stood := { row := xcharKindsRow, standIns := [], harness := (true, "97cecc16f99f8f5ffa94c0e13c702567c96039b26ac0c3a99843a05905076f18"), looks := false }, kinds := [], alts := [], laidByText := true, laidKinds := [.data, .pinned], laidTests := true, laidLooks := .later }
def XcharKindsCardSaid : Prop := Claim7.holds Tryd.pinned (.plain (OpenSpec.ofChange xcharKindsSpec)) xcharKindsCard

/-- THE TIED CARD OF 'stencillaw01.XcharJoins'. -/
def xcharJoinsCard : Claim7 := { stood := { row := xcharJoinsRow, standIns := [], harness := (true, "97cecc16f99f8f5ffa94c0e13c702567c96039b26ac0c3a99843a05905076f18"), looks := false }, kinds := [], alts := [], laidByText := true, laidKinds := [.data, .pinned], laidTests := true, laidLooks := .later }
def XcharJoinsCardSaid : Prop := Claim7.holds Tryd.pinned (.plain (OpenSpec.ofChange xcharJoinsSpec)) xcharJoinsCard

/-- THE TIED CARD OF 'stencillaw01.XcharTrims'. -/
def xcharTrimsCard : Claim7 := { stood := { row := xcharTrimsRow, standIns := [], harness := (true, "97cecc16f99f8f5ffa94c0e13c702567c96039b26ac0c3a99843a05905076f18"), looks := false }, kinds := [], alts := [], laidByText := true, laidKinds := [.data, .pinned], laidTests := true, laidLooks := .later }
def XcharTrimsCardSaid : Prop := Claim7.holds Tryd.pinned (.plain (OpenSpec.ofChange xcharTrimsSpec)) xcharTrimsCard

/-- THE TIED CARD OF 'stencillaw01.XcharLines'. -/
def xcharLinesCard : Claim7 := { stood := { row := xcharLinesRow, standIns := [], harness := (true, "97cecc16f99f8f5ffa94c0e13c702567c96039b26ac0c3a99843a05905076f18"), looks := false }, kinds := [], alts := [], laidByText := true, laidKinds := [.data, .pinned], laidTests := true, laidLooks := .later }
def XcharLinesCardSaid : Prop := Claim7.holds Tryd.pinned (.plain (OpenSpec.ofChange xcharLinesSpec)) xcharLinesCard

/-- THE TIED CARD OF 'stencillaw01.XcharNames'. -/
def xcharNamesCard : Claim7 := { stood := { row := xcharNamesRow, standIns := [], harness := (true, "97cecc16f99f8f5ffa94c0e13c702567c96039b26ac0c3a99843a05905076f18"), looks := false }, kinds := [], alts := [], laidByText := true, laidKinds := [.data, .pinned], laidTests := true, laidLooks := .later }
def XcharNamesCardSaid : Prop := Claim7.holds Tryd.pinned (.plain (OpenSpec.ofChange xcharNamesSpec)) xcharNamesCard

/-- THE TIED CARD OF 'stencillaw01.XcharParts'. -/
def xcharPartsCard : Claim7 := { stood := { row := xcharPartsRow, standIns := [], harness := (true, "97cecc16f99f8f5ffa94c0e13c702567c96039b26ac0c3a99843a05905076f18"), looks := false }, kinds := [], alts := [], laidByText := true, laidKinds := [.data, .pinned], laidTests := true, laidLooks := .later }
def XcharPartsCardSaid : Prop := Claim7.holds Tryd.pinned (.plain (OpenSpec.ofChange xcharPartsSpec)) xcharPartsCard

/-- THE TIED CARD OF 'stencillaw01.XcharEncodes'. -/
def xcharEncodesCard : Claim7 := { stood := { row := xcharEncodesRow, standIns := [], harness := (true, "97cecc16f99f8f5ffa94c0e13c702567c96039b26ac0c3a99843a05905076f18"), looks := false }, kinds := [], alts := [], laidByText := true, laidKinds := [.data, .pinned], laidTests := true, laidLooks := .later }
def XcharEncodesCardSaid : Prop := Claim7.holds Tryd.pinned (.plain (OpenSpec.ofChange xcharEncodesSpec)) xcharEncodesCard

/-- THE TIED CARD OF 'stencillaw01.XcharBack'. -/
def xcharBackCard : Claim7 := { stood := { row := xcharBackRow, standIns := [], harness := (true, "97cecc16f99f8f5ffa94c0e13c702567c96039b26ac0c3a99843a05905076f18"), looks := false }, kinds := [], alts := [], laidByText := true, laidKinds := [.data, .pinned], laidTests := true, laidLooks := .later }
def XcharBackCardSaid : Prop := Claim7.holds Tryd.pinned (.plain (OpenSpec.ofChange xcharBackSpec)) xcharBackCard

/-- THE TIED CARD OF 'stencillaw05.XplexJoins'. -/
def xplexJoinsCard : Claim7 := { stood := { row := xplexJoinsRow, standIns := [], harness := (true, "97cecc16f99f8f5ffa94c0e13c702567c96039b26ac0c3a99843a05905076f18"), looks := false }, kinds := [], alts := [], laidByText := true, laidKinds := [.data, .pinned], laidTests := true, laidLooks := .later }
def XplexJoinsCardSaid : Prop := Claim7.holds Tryd.pinned (.plain (OpenSpec.ofChange xplexJoinsSpec)) xplexJoinsCard

/-- THE TIED CARD OF 'stencillaw05.XplexBack'. -/
def xplexBackCard : Claim7 := { stood := { row := xplexBackRow, standIns := [], harness := (true, "97cecc16f99f8f5ffa94c0e13c702567c96039b26ac0c3a99843a05905076f18"), looks := false }, kinds := [], alts := [], laidByText := true, laidKinds := [.data, .pinned], laidTests := true, laidLooks := .later }
def XplexBackCardSaid : Prop := Claim7.holds Tryd.pinned (.plain (OpenSpec.ofChange xplexBackSpec)) xplexBackCard

/-- THE SECOND FORM's CARD OF 'stencillaw05.XplexBlanks'. -/
def xplexBlanksUptoCard : Claim7 := { stood := { row := xplexBlanksUptoRow, standIns := [], harness := (true, "97cecc16f99f8f5ffa94c0e13c702567c96039b26ac0c3a99843a05905076f18"), looks := false }, kinds := [], alts := [], laidByText := true, laidKinds := [.data, .pinned], laidTests := true, laidLooks := .later }
def XplexBlanksUptoCardSaid : Prop := Claim7.holds Tryd.pinned (.plain (OpenSpec.upto xplexBlanksSpec)) xplexBlanksUptoCard

/-- THE SECOND FORM's CARD OF 'stencillaw05.XplexNames'. -/
def xplexNamesUptoCard : Claim7 := { stood := { row := xplexNamesUptoRow, standIns := [], harness := (true, "97cecc16f99f8f5ffa94c0e13c702567c96039b26ac0c3a99843a05905076f18"), looks := false }, kinds := [], alts := [], laidByText := true, laidKinds := [.data, .pinned], laidTests := true, laidLooks := .later }
def XplexNamesUptoCardSaid : Prop := Claim7.holds Tryd.pinned (.plain (OpenSpec.upto xplexNamesSpec)) xplexNamesUptoCard

/-- THE SECOND FORM's CARD OF 'stencillaw05.XplexPlaces'. -/
def xplexPlacesUptoCard : Claim7 := { stood := { row := xplexPlacesUptoRow, standIns := [], harness := (true, "97cecc16f99f8f5ffa94c0e13c702567c96039b26ac0c3a99843a05905076f18"), looks := false }, kinds := [], alts := [], laidByText := true, laidKinds := [.data, .pinned], laidTests := true, laidLooks := .later }
def XplexPlacesUptoCardSaid : Prop := Claim7.holds Tryd.pinned (.plain (OpenSpec.upto xplexPlacesSpec)) xplexPlacesUptoCard

/-- THE SECOND FORM's CARD OF 'stencillaw05.XplexLiterals'. -/
def xplexLiteralsUptoCard : Claim7 := { stood := { row := xplexLiteralsUptoRow, standIns := [], harness := (true, "97cecc16f99f8f5ffa94c0e13c702567c96039b26ac0c3a99843a05905076f18"), looks := false }, kinds := [], alts := [], laidByText := true, laidKinds := [.data, .pinned], laidTests := true, laidLooks := .later }
def XplexLiteralsUptoCardSaid : Prop := Claim7.holds Tryd.pinned (.plain (OpenSpec.upto xplexLiteralsSpec)) xplexLiteralsUptoCard

/-- THE SECOND FORM's CARD OF 'stencillaw01.XcharDecodes'. -/
def xcharDecodesUptoCard : Claim7 := { stood := { row := xcharDecodesUptoRow, standIns := [], harness := (true, "97cecc16f99f8f5ffa94c0e13c702567c96039b26ac0c3a99843a05905076f18"), looks := false }, kinds := [], alts := [], laidByText := true, laidKinds := [.data, .pinned], laidTests := true, laidLooks := .later }
def XcharDecodesUptoCardSaid : Prop := Claim7.holds Tryd.pinned (.plain (OpenSpec.upto xcharDecodesSpec)) xcharDecodesUptoCard

/-- THE SECOND FORM's CARD OF 'stencillaw01.XcharKinds'. -/
def xcharKindsUptoCard : Claim7 := { stood := { row := xcharKindsUptoRow, standIns := [], harness := (true, "97cecc16f99f8f5ffa94c0e13c702567c96039b26ac0c3a99843a05905076f18"), looks := false }, kinds := [], alts := [], laidByText := true, laidKinds := [.data, .pinned], laidTests := true, laidLooks := .later }
def XcharKindsUptoCardSaid : Prop := Claim7.holds Tryd.pinned (.plain (OpenSpec.upto xcharKindsSpec)) xcharKindsUptoCard

/-- THE SECOND FORM's CARD OF 'stencillaw01.XcharJoins'. -/
def xcharJoinsUptoCard : Claim7 := { stood := { row := xcharJoinsUptoRow, standIns := [], harness := (true, "97cecc16f99f8f5ffa94c0e13c702567c96039b26ac0c3a99843a05905076f18"), looks := false }, kinds := [], alts := [], laidByText := true, laidKinds := [.data, .pinned], laidTests := true, laidLooks := .later }
def XcharJoinsUptoCardSaid : Prop := Claim7.holds Tryd.pinned (.plain (OpenSpec.upto xcharJoinsSpec)) xcharJoinsUptoCard

/-- THE SECOND FORM's CARD OF 'stencillaw01.XcharTrims'. -/
def xcharTrimsUptoCard : Claim7 := { stood := { row := xcharTrimsUptoRow, standIns := [], harness := (true, "97cecc16f99f8f5ffa94c0e13c702567c96039b26ac0c3a99843a05905076f18"), looks := false }, kinds := [], alts := [], laidByText := true, laidKinds := [.data, .pinned], laidTests := true, laidLooks := .later }
def XcharTrimsUptoCardSaid : Prop := Claim7.holds Tryd.pinned (.plain (OpenSpec.upto xcharTrimsSpec)) xcharTrimsUptoCard

/-- THE SECOND FORM's CARD OF 'stencillaw01.XcharLines'. -/
def xcharLinesUptoCard : Claim7 := { stood := { row := xcharLinesUptoRow, standIns := [], harness := (true, "97cecc16f99f8f5ffa94c0e13c702567c96039b26ac0c3a99843a05905076f18"), looks := false }, kinds := [], alts := [], laidByText := true, laidKinds := [.data, .pinned], laidTests := true, laidLooks := .later }
def XcharLinesUptoCardSaid : Prop := Claim7.holds Tryd.pinned (.plain (OpenSpec.upto xcharLinesSpec)) xcharLinesUptoCard

/-- THE SECOND FORM's CARD OF 'stencillaw01.XcharNames'. -/
def xcharNamesUptoCard : Claim7 := { stood := { row := xcharNamesUptoRow, standIns := [], harness := (true, "97cecc16f99f8f5ffa94c0e13c702567c96039b26ac0c3a99843a05905076f18"), looks := false }, kinds := [], alts := [], laidByText := true, laidKinds := [.data, .pinned], laidTests := true, laidLooks := .later }
def XcharNamesUptoCardSaid : Prop := Claim7.holds Tryd.pinned (.plain (OpenSpec.upto xcharNamesSpec)) xcharNamesUptoCard

/-- THE SECOND FORM's CARD OF 'stencillaw01.XcharParts'. -/
def xcharPartsUptoCard : Claim7 := { stood := { row := xcharPartsUptoRow, standIns := [], harness := (true, "97cecc16f99f8f5ffa94c0e13c702567c96039b26ac0c3a99843a05905076f18"), looks := false }, kinds := [], alts := [], laidByText := true, laidKinds := [.data, .pinned], laidTests := true, laidLooks := .later }
def XcharPartsUptoCardSaid : Prop := Claim7.holds Tryd.pinned (.plain (OpenSpec.upto xcharPartsSpec)) xcharPartsUptoCard

/-- THE SECOND FORM's CARD OF 'stencillaw01.XcharEncodes'. -/
def xcharEncodesUptoCard : Claim7 := { stood := { row := xcharEncodesUptoRow, standIns := [], harness := (true, "97cecc16f99f8f5ffa94c0e13c702567c96039b26ac0c3a99843a05905076f18"), looks := false }, kinds := [], alts := [], laidByText := true, laidKinds := [.data, .pinned], laidTests := true, laidLooks := .later }
def XcharEncodesUptoCardSaid : Prop := Claim7.holds Tryd.pinned (.plain (OpenSpec.upto xcharEncodesSpec)) xcharEncodesUptoCard

/-- THE SECOND FORM's CARD OF 'stencillaw01.XcharBack'. -/
def xcharBackUptoCard : Claim7 := { stood := { row := xcharBackUptoRow, standIns := [], harness := (true, "97cecc16f99f8f5ffa94c0e13c702567c96039b26ac0c3a99843a05905076f18"), looks := false }, kinds := [], alts := [], laidByText := true, laidKinds := [.data, .pinned], laidTests := true, laidLooks := .later }
def XcharBackUptoCardSaid : Prop := Claim7.holds Tryd.pinned (.plain (OpenSpec.upto xcharBackSpec)) xcharBackUptoCard

/-- THE SECOND FORM's CARD OF 'stencillaw05.XplexJoins'. -/
def xplexJoinsUptoCard : Claim7 := { stood := { row := xplexJoinsUptoRow, standIns := [], harness := (true, "97cecc16f99f8f5ffa94c0e13c702567c96039b26ac0c3a99843a05905076f18"), looks := false }, kinds := [], alts := [], laidByText := true, laidKinds := [.data, .pinned], laidTests := true, laidLooks := .later }
def XplexJoinsUptoCardSaid : Prop := Claim7.holds Tryd.pinned (.plain (OpenSpec.upto xplexJoinsSpec)) xplexJoinsUptoCard

/-- THE SECOND FORM's CARD OF 'stencillaw05.XplexBack'. -/
def xplexBackUptoCard : Claim7 := { stood := { row := xplexBackUptoRow, standIns := [], harness := (true, "97cecc16f99f8f5ffa94c0e13c702567c96039b26ac0c3a99843a05905076f18"), looks := false }, kinds := [], alts := [], laidByText := true, laidKinds := [.data, .pinned], laidTests := true, laidLooks := .later }
def XplexBackUptoCardSaid : Prop := Claim7.holds Tryd.pinned (.plain (OpenSpec.upto xplexBackSpec)) xplexBackUptoCard
end Rows
end Go.Proofs.YtinefoocajnhmaaDoor
