/-
  NARROWER THAN 'FOR EVERY INPUT', by the rows' own cells (each row's printed sentence says how): XplexBlanks: laid · XplexNames: laid · XplexPlaces: laid · XplexLiterals: laid · XcharDecodes: laid · XcharKinds: laid · XcharJoins: laid · XcharTrims: laid · XcharLines: laid · XcharNames: laid · XcharParts: laid · XcharEncodes: laid · XcharBack: laid · XplexJoins: laid · XplexBack: laid.
  DERIVED. THE GIVEN ROWS OF THIS SEAT. 15 by the template 'for every input the law returns true; each argument reads behind the call as it read before'; 0 by the template 'total and deterministic' (their statements: YtinefoocajnhmaaDoorTotals.lean).
  GIVEN WITH THE SEED: the statements are not yours to turn. If you find one false, say at which input.
  Laid BY PROGRAM, IN A SANDBOX (cutbox-rows.mjs): the forced cells as the released guide's own fill.sh prints them over the translation 91d146861d406bd3… (all of the seat's roots in one cut). By AI agents, Wed Nov 11 2026. No macro, syntax, notation, axiom, sorry.
-/
import Derived.Test.YtinefoocajnhmaaDoorChecked
import GoSem.PinnedTables
import GoSem.Claim
import GoSem.ClaimJoined
import GoSem.ClaimMapViews
import Derived.JoinedTies
import Derived.KernelRfl
namespace Go.Proofs.YtinefoocajnhmaaDoor
/- THE CELL 'sum', in the pinned program and in every row, IS THE sha256 OF THE DUMP (.gsa) THAT YtinefoocajnhmaaDoorProg.lean LOADS. Nothing in Lean hashes anything: it is a label: what it is worth is what the hold of that sum in a sandbox is worth. -/
noncomputable def Tryd.pinned : Pinned := { name := "ytinefoocajnhmaadoor", sum := "91d146861d406bd3ac104d0a576453b1fb7dc82a648f491e71c8410d33b25eff", checked := Tryd.checked }
namespace Rows
def none {H : Type} : Left H := { results := [], args := [] }

/- WHAT THE LISTED PACKAGE-LEVEL VARIABLES READ AS WHEN THE CALL BEGINS. Each datum BY PROGRAM (the guide's laid-datum.mjs) off the statement by which the dump's own 'gosem.cut.vars' lays the variable. In a bare row this is a premise. The card (YtinefoocajnhmaaDoorCards.lean) ties it to the program's text. -/
def laid_unicode_utf8_acceptRanges {H : Type} : DataW H := .agg [.agg [.lit (.int .u8 128), .lit (.int .u8 191)], .agg [.lit (.int .u8 160), .lit (.int .u8 191)], .agg [.lit (.int .u8 128), .lit (.int .u8 159)], .agg [.lit (.int .u8 144), .lit (.int .u8 191)], .agg [.lit (.int .u8 128), .lit (.int .u8 143)], .agg [.lit (.int .u8 0), .lit (.int .u8 0)], .agg [.lit (.int .u8 0), .lit (.int .u8 0)], .agg [.lit (.int .u8 0), .lit (.int .u8 0)], .agg [.lit (.int .u8 0), .lit (.int .u8 0)], .agg [.lit (.int .u8 0), .lit (.int .u8 0)], .agg [.lit (.int .u8 0), .lit (.int .u8 0)], .agg [.lit (.int .u8 0), .lit (.int .u8 0)], .agg [.lit (.int .u8 0), .lit (.int .u8 0)], .agg [.lit (.int .u8 0), .lit (.int .u8 0)], .agg [.lit (.int .u8 0), .lit (.int .u8 0)], .agg [.lit (.int .u8 0), .lit (.int .u8 0)]]
/-- One of Go's own tables, pinned by name: the form's constant. -/
def laid_unicode_utf8_first : DataW Unit := Go.Pinned.utf8First

/-- 'stencillaw05.XplexBlanks': WHATEVER THE INPUT: true; the input reads as it did. -/
def xplexBlanksSpec : ChangeSpec := { name := "xplexBlanks", fn := fun _ => fun
  | [d1, d2] => { results := [.lit (.bool true)], args := [d1, d2] }
  | _ => none }
def xplexBlanksRow : OpenClaim := { program := "ytinefoocajnhmaadoor", sum := "91d146861d406bd3ac104d0a576453b1fb7dc82a648f491e71c8410d33b25eff", func := "stencil/stencillaw05.XplexBlanks", spec := "xplexBlanks", inPlace := ["internal/bytealg.IndexByteString", "internal/bytealg.IndexString"], named := ["unicode/utf8.first", "unicode/utf8.acceptRanges", "internal/bytealg.MaxLen"], apart := false, laid := [("unicode/utf8.acceptRanges", laid_unicode_utf8_acceptRanges), ("unicode/utf8.first", laid_unicode_utf8_first)] }
def XplexBlanksSaid : Prop := xplexBlanksRow.holds Tryd.pinned (OpenSpec.ofChange xplexBlanksSpec)

/-- ITS FALSE NEIGHBOUR: 'it returns false'. Refute it at one input. -/
def xplexBlanksWrong : ChangeSpec := { name := "xplexBlanks", fn := fun _ => fun
  | [d1, d2] => { results := [.lit (.bool false)], args := [d1, d2] }
  | _ => none }
def XplexBlanksWrongFalsely : Prop := xplexBlanksRow.holds Tryd.pinned (OpenSpec.ofChange xplexBlanksWrong)

/-- 'stencillaw05.XplexNames': WHATEVER THE INPUT: true; the input reads as it did. -/
def xplexNamesSpec : ChangeSpec := { name := "xplexNames", fn := fun _ => fun
  | [d] => { results := [.lit (.bool true)], args := [d] }
  | _ => none }
def xplexNamesRow : OpenClaim := { program := "ytinefoocajnhmaadoor", sum := "91d146861d406bd3ac104d0a576453b1fb7dc82a648f491e71c8410d33b25eff", func := "stencil/stencillaw05.XplexNames", spec := "xplexNames", inPlace := ["internal/bytealg.IndexByteString", "internal/bytealg.IndexString"], named := ["unicode/utf8.first", "unicode/utf8.acceptRanges", "internal/bytealg.MaxLen"], apart := false, laid := [("unicode/utf8.acceptRanges", laid_unicode_utf8_acceptRanges), ("unicode/utf8.first", laid_unicode_utf8_first)] }
def XplexNamesSaid : Prop := xplexNamesRow.holds Tryd.pinned (OpenSpec.ofChange xplexNamesSpec)

/-- ITS FALSE NEIGHBOUR: 'it returns false'. Refute it at one input. -/
def xplexNamesWrong : ChangeSpec := { name := "xplexNames", fn := fun _ => fun
  | [d] => { results := [.lit (.bool false)], args := [d] }
  | _ => none }
def XplexNamesWrongFalsely : Prop := xplexNamesRow.holds Tryd.pinned (OpenSpec.ofChange xplexNamesWrong)

/-- 'stencillaw05.XplexPlaces': WHATEVER THE INPUT: true; the input reads as it did. -/
def xplexPlacesSpec : ChangeSpec := { name := "xplexPlaces", fn := fun _ => fun
  | [d] => { results := [.lit (.bool true)], args := [d] }
  | _ => none }
def xplexPlacesRow : OpenClaim := { program := "ytinefoocajnhmaadoor", sum := "91d146861d406bd3ac104d0a576453b1fb7dc82a648f491e71c8410d33b25eff", func := "stencil/stencillaw05.XplexPlaces", spec := "xplexPlaces", inPlace := ["internal/bytealg.IndexByteString", "internal/bytealg.IndexString"], named := ["unicode/utf8.first", "unicode/utf8.acceptRanges", "internal/bytealg.MaxLen"], apart := false, laid := [("unicode/utf8.acceptRanges", laid_unicode_utf8_acceptRanges), ("unicode/utf8.first", laid_unicode_utf8_first)] }
def XplexPlacesSaid : Prop := xplexPlacesRow.holds Tryd.pinned (OpenSpec.ofChange xplexPlacesSpec)

/-- ITS FALSE NEIGHBOUR: 'it returns false'. Refute it at one input. -/
def xplexPlacesWrong : ChangeSpec := { name := "xplexPlaces", fn := fun _ => fun
  | [d] => { results := [.lit (.bool false)], args := [d] }
  | _ => none }
def XplexPlacesWrongFalsely : Prop := xplexPlacesRow.holds Tryd.pinned (OpenSpec.ofChange xplexPlacesWrong)

/-- 'stencillaw05.XplexLiterals': WHATEVER THE INPUT: true; the input reads as it did. -/
def xplexLiteralsSpec : ChangeSpec := { name := "xplexLiterals", fn := fun _ => fun
  | [d] => { results := [.lit (.bool true)], args := [d] }
  | _ => none }
def xplexLiteralsRow : OpenClaim := { program := "ytinefoocajnhmaadoor", sum := "91d146861d406bd3ac104d0a576453b1fb7dc82a648f491e71c8410d33b25eff", func := "stencil/stencillaw05.XplexLiterals", spec := "xplexLiterals", inPlace := ["internal/bytealg.IndexByteString", "internal/bytealg.IndexString"], named := ["internal/bytealg.MaxLen", "unicode/utf8.first", "unicode/utf8.acceptRanges"], apart := false, laid := [("unicode/utf8.acceptRanges", laid_unicode_utf8_acceptRanges), ("unicode/utf8.first", laid_unicode_utf8_first)] }
def XplexLiteralsSaid : Prop := xplexLiteralsRow.holds Tryd.pinned (OpenSpec.ofChange xplexLiteralsSpec)

/-- ITS FALSE NEIGHBOUR: 'it returns false'. Refute it at one input. -/
def xplexLiteralsWrong : ChangeSpec := { name := "xplexLiterals", fn := fun _ => fun
  | [d] => { results := [.lit (.bool false)], args := [d] }
  | _ => none }
def XplexLiteralsWrongFalsely : Prop := xplexLiteralsRow.holds Tryd.pinned (OpenSpec.ofChange xplexLiteralsWrong)

/-- 'stencillaw01.XcharDecodes': WHATEVER THE INPUT: true; the input reads as it did. -/
def xcharDecodesSpec : ChangeSpec := { name := "xcharDecodes", fn := fun _ => fun
  | [d] => { results := [.lit (.bool true)], args := [d] }
  | _ => none }
def xcharDecodesRow : OpenClaim := { program := "ytinefoocajnhmaadoor", sum := "91d146861d406bd3ac104d0a576453b1fb7dc82a648f491e71c8410d33b25eff", func := "stencil/stencillaw01.XcharDecodes", spec := "xcharDecodes", inPlace := ["internal/abi.NoEscape", "internal/bytealg.CountString", "internal/bytealg.IndexByteString", "internal/bytealg.IndexString", "internal/bytealg.MakeNoZero"], unfollowed := true, recurses := true, named := ["internal/bytealg.MaxLen", "unicode/utf8.first", "unicode/utf8.acceptRanges"], apart := false, laid := [("unicode/utf8.acceptRanges", laid_unicode_utf8_acceptRanges), ("unicode/utf8.first", laid_unicode_utf8_first)] }
def XcharDecodesSaid : Prop := xcharDecodesRow.holds Tryd.pinned (OpenSpec.ofChange xcharDecodesSpec)

/-- ITS FALSE NEIGHBOUR: 'it returns false'. Refute it at one input. -/
def xcharDecodesWrong : ChangeSpec := { name := "xcharDecodes", fn := fun _ => fun
  | [d] => { results := [.lit (.bool false)], args := [d] }
  | _ => none }
def XcharDecodesWrongFalsely : Prop := xcharDecodesRow.holds Tryd.pinned (OpenSpec.ofChange xcharDecodesWrong)

/-- 'stencillaw01.XcharKinds': WHATEVER THE INPUT: true; the input reads as it did. -/
def xcharKindsSpec : ChangeSpec := { name := "xcharKinds", fn := fun _ => fun
  | [d] => { results := [.lit (.bool true)], args := [d] }
  | _ => none }
def xcharKindsRow : OpenClaim := { program := "ytinefoocajnhmaadoor", sum := "91d146861d406bd3ac104d0a576453b1fb7dc82a648f491e71c8410d33b25eff", func := "stencil/stencillaw01.XcharKinds", spec := "xcharKinds", inPlace := ["internal/abi.NoEscape", "internal/bytealg.CountString", "internal/bytealg.IndexByteString", "internal/bytealg.IndexString", "internal/bytealg.MakeNoZero"], unfollowed := true, recurses := true, named := ["internal/bytealg.MaxLen", "unicode/utf8.first", "unicode/utf8.acceptRanges"], apart := false, laid := [("unicode/utf8.acceptRanges", laid_unicode_utf8_acceptRanges), ("unicode/utf8.first", laid_unicode_utf8_first)] }
def XcharKindsSaid : Prop := xcharKindsRow.holds Tryd.pinned (OpenSpec.ofChange xcharKindsSpec)

/-- ITS FALSE NEIGHBOUR: 'it returns false'. Refute it at one input. -/
def xcharKindsWrong : ChangeSpec := { name := "xcharKinds", fn := fun _ => fun
  | [d] => { results := [.lit (.bool false)], args := [d] }
  | _ => none }
def XcharKindsWrongFalsely : Prop := xcharKindsRow.holds Tryd.pinned (OpenSpec.ofChange xcharKindsWrong)

/-- 'stencillaw01.XcharJoins': WHATEVER THE INPUT: true; the input reads as it did. -/
def xcharJoinsSpec : ChangeSpec := { name := "xcharJoins", fn := fun _ => fun
  | [d1, d2] => { results := [.lit (.bool true)], args := [d1, d2] }
  | _ => none }
def xcharJoinsRow : OpenClaim := { program := "ytinefoocajnhmaadoor", sum := "91d146861d406bd3ac104d0a576453b1fb7dc82a648f491e71c8410d33b25eff", func := "stencil/stencillaw01.XcharJoins", spec := "xcharJoins", inPlace := ["internal/bytealg.IndexByteString", "internal/bytealg.IndexString", "internal/abi.NoEscape", "internal/bytealg.CountString", "internal/bytealg.MakeNoZero"], unfollowed := true, recurses := true, named := ["internal/bytealg.MaxLen", "unicode/utf8.first", "unicode/utf8.acceptRanges"], apart := false, laid := [("unicode/utf8.acceptRanges", laid_unicode_utf8_acceptRanges), ("unicode/utf8.first", laid_unicode_utf8_first)] }
def XcharJoinsSaid : Prop := xcharJoinsRow.holds Tryd.pinned (OpenSpec.ofChange xcharJoinsSpec)

/-- ITS FALSE NEIGHBOUR: 'it returns false'. Refute it at one input. -/
def xcharJoinsWrong : ChangeSpec := { name := "xcharJoins", fn := fun _ => fun
  | [d1, d2] => { results := [.lit (.bool false)], args := [d1, d2] }
  | _ => none }
def XcharJoinsWrongFalsely : Prop := xcharJoinsRow.holds Tryd.pinned (OpenSpec.ofChange xcharJoinsWrong)

/-- 'stencillaw01.XcharTrims': WHATEVER THE INPUT: true; the input reads as it did. -/
def xcharTrimsSpec : ChangeSpec := { name := "xcharTrims", fn := fun _ => fun
  | [d] => { results := [.lit (.bool true)], args := [d] }
  | _ => none }
def xcharTrimsRow : OpenClaim := { program := "ytinefoocajnhmaadoor", sum := "91d146861d406bd3ac104d0a576453b1fb7dc82a648f491e71c8410d33b25eff", func := "stencil/stencillaw01.XcharTrims", spec := "xcharTrims", inPlace := ["internal/abi.NoEscape", "internal/bytealg.MakeNoZero", "internal/bytealg.CountString", "internal/bytealg.IndexByteString", "internal/bytealg.IndexString"], unfollowed := true, recurses := true, named := ["internal/bytealg.MaxLen", "unicode/utf8.first", "unicode/utf8.acceptRanges"], apart := false, laid := [("unicode/utf8.acceptRanges", laid_unicode_utf8_acceptRanges), ("unicode/utf8.first", laid_unicode_utf8_first)] }
def XcharTrimsSaid : Prop := xcharTrimsRow.holds Tryd.pinned (OpenSpec.ofChange xcharTrimsSpec)

/-- ITS FALSE NEIGHBOUR: 'it returns false'. Refute it at one input. -/
def xcharTrimsWrong : ChangeSpec := { name := "xcharTrims", fn := fun _ => fun
  | [d] => { results := [.lit (.bool false)], args := [d] }
  | _ => none }
def XcharTrimsWrongFalsely : Prop := xcharTrimsRow.holds Tryd.pinned (OpenSpec.ofChange xcharTrimsWrong)

/-- 'stencillaw01.XcharLines': WHATEVER THE INPUT: true; the input reads as it did. -/
def xcharLinesSpec : ChangeSpec := { name := "xcharLines", fn := fun _ => fun
  | [d] => { results := [.lit (.bool true)], args := [d] }
  | _ => none }
def xcharLinesRow : OpenClaim := { program := "ytinefoocajnhmaadoor", sum := "91d146861d406bd3ac104d0a576453b1fb7dc82a648f491e71c8410d33b25eff", func := "stencil/stencillaw01.XcharLines", spec := "xcharLines", inPlace := ["internal/abi.NoEscape", "internal/bytealg.CountString", "internal/bytealg.IndexByteString", "internal/bytealg.IndexString", "internal/bytealg.MakeNoZero"], unfollowed := true, recurses := true, named := ["internal/bytealg.MaxLen", "unicode/utf8.first", "unicode/utf8.acceptRanges"], apart := false, laid := [("unicode/utf8.acceptRanges", laid_unicode_utf8_acceptRanges), ("unicode/utf8.first", laid_unicode_utf8_first)] }
def XcharLinesSaid : Prop := xcharLinesRow.holds Tryd.pinned (OpenSpec.ofChange xcharLinesSpec)

/-- ITS FALSE NEIGHBOUR: 'it returns false'. Refute it at one input. -/
def xcharLinesWrong : ChangeSpec := { name := "xcharLines", fn := fun _ => fun
  | [d] => { results := [.lit (.bool false)], args := [d] }
  | _ => none }
def XcharLinesWrongFalsely : Prop := xcharLinesRow.holds Tryd.pinned (OpenSpec.ofChange xcharLinesWrong)

/-- 'stencillaw01.XcharNames': WHATEVER THE INPUT: true; the input reads as it did. -/
def xcharNamesSpec : ChangeSpec := { name := "xcharNames", fn := fun _ => fun
  | [d] => { results := [.lit (.bool true)], args := [d] }
  | _ => none }
def xcharNamesRow : OpenClaim := { program := "ytinefoocajnhmaadoor", sum := "91d146861d406bd3ac104d0a576453b1fb7dc82a648f491e71c8410d33b25eff", func := "stencil/stencillaw01.XcharNames", spec := "xcharNames", inPlace := ["internal/bytealg.IndexByteString", "internal/bytealg.IndexString", "internal/abi.NoEscape", "internal/bytealg.CountString", "internal/bytealg.MakeNoZero"], unfollowed := true, recurses := true, named := ["internal/bytealg.MaxLen", "unicode/utf8.first", "unicode/utf8.acceptRanges"], apart := false, laid := [("unicode/utf8.acceptRanges", laid_unicode_utf8_acceptRanges), ("unicode/utf8.first", laid_unicode_utf8_first)] }
def XcharNamesSaid : Prop := xcharNamesRow.holds Tryd.pinned (OpenSpec.ofChange xcharNamesSpec)

/-- ITS FALSE NEIGHBOUR: 'it returns false'. Refute it at one input. -/
def xcharNamesWrong : ChangeSpec := { name := "xcharNames", fn := fun _ => fun
  | [d] => { results := [.lit (.bool false)], args := [d] }
  | _ => none }
def XcharNamesWrongFalsely : Prop := xcharNamesRow.holds Tryd.pinned (OpenSpec.ofChange xcharNamesWrong)

/-- 'stencillaw01.XcharParts': WHATEVER THE INPUT: true; the input reads as it did. -/
def xcharPartsSpec : ChangeSpec := { name := "xcharParts", fn := fun _ => fun
  | [d1, d2] => { results := [.lit (.bool true)], args := [d1, d2] }
  | _ => none }
def xcharPartsRow : OpenClaim := { program := "ytinefoocajnhmaadoor", sum := "91d146861d406bd3ac104d0a576453b1fb7dc82a648f491e71c8410d33b25eff", func := "stencil/stencillaw01.XcharParts", spec := "xcharParts", inPlace := ["internal/abi.NoEscape", "internal/bytealg.CountString", "internal/bytealg.IndexByteString", "internal/bytealg.IndexString", "internal/bytealg.MakeNoZero"], unfollowed := true, recurses := true, named := ["internal/bytealg.MaxLen", "unicode/utf8.first", "unicode/utf8.acceptRanges"], apart := false, laid := [("unicode/utf8.acceptRanges", laid_unicode_utf8_acceptRanges), ("unicode/utf8.first", laid_unicode_utf8_first)] }
def XcharPartsSaid : Prop := xcharPartsRow.holds Tryd.pinned (OpenSpec.ofChange xcharPartsSpec)

/-- ITS FALSE NEIGHBOUR: 'it returns false'. Refute it at one input. -/
def xcharPartsWrong : ChangeSpec := { name := "xcharParts", fn := fun _ => fun
  | [d1, d2] => { results := [.lit (.bool false)], args := [d1, d2] }
  | _ => none }
def XcharPartsWrongFalsely : Prop := xcharPartsRow.holds Tryd.pinned (OpenSpec.ofChange xcharPartsWrong)

/-- 'stencillaw01.XcharEncodes': WHATEVER THE INPUT: true; the input reads as it did. -/
def xcharEncodesSpec : ChangeSpec := { name := "xcharEncodes", fn := fun _ => fun
  | [d1, d2] => { results := [.lit (.bool true)], args := [d1, d2] }
  | _ => none }
def xcharEncodesRow : OpenClaim := { program := "ytinefoocajnhmaadoor", sum := "91d146861d406bd3ac104d0a576453b1fb7dc82a648f491e71c8410d33b25eff", func := "stencil/stencillaw01.XcharEncodes", spec := "xcharEncodes", inPlace := ["internal/abi.NoEscape", "internal/bytealg.CountString", "internal/bytealg.IndexByteString", "internal/bytealg.IndexString", "internal/bytealg.MakeNoZero"], unfollowed := true, recurses := true, named := ["unicode/utf8.first", "unicode/utf8.acceptRanges", "internal/bytealg.MaxLen"], apart := false, laid := [("unicode/utf8.acceptRanges", laid_unicode_utf8_acceptRanges), ("unicode/utf8.first", laid_unicode_utf8_first)] }
def XcharEncodesSaid : Prop := xcharEncodesRow.holds Tryd.pinned (OpenSpec.ofChange xcharEncodesSpec)

/-- ITS FALSE NEIGHBOUR: 'it returns false'. Refute it at one input. -/
def xcharEncodesWrong : ChangeSpec := { name := "xcharEncodes", fn := fun _ => fun
  | [d1, d2] => { results := [.lit (.bool false)], args := [d1, d2] }
  | _ => none }
def XcharEncodesWrongFalsely : Prop := xcharEncodesRow.holds Tryd.pinned (OpenSpec.ofChange xcharEncodesWrong)

/-- 'stencillaw01.XcharBack': WHATEVER THE INPUT: true; the input reads as it did. -/
def xcharBackSpec : ChangeSpec := { name := "xcharBack", fn := fun _ => fun
  | [d1, d2] => { results := [.lit (.bool true)], args := [d1, d2] }
  | _ => none }
def xcharBackRow : OpenClaim := { program := "ytinefoocajnhmaadoor", sum := "91d146861d406bd3ac104d0a576453b1fb7dc82a648f491e71c8410d33b25eff", func := "stencil/stencillaw01.XcharBack", spec := "xcharBack", inPlace := ["internal/abi.NoEscape", "internal/bytealg.CountString", "internal/bytealg.IndexByteString", "internal/bytealg.IndexString", "internal/bytealg.MakeNoZero"], unfollowed := true, recurses := true, named := ["unicode/utf8.first", "unicode/utf8.acceptRanges", "internal/bytealg.MaxLen"], apart := false, laid := [("unicode/utf8.acceptRanges", laid_unicode_utf8_acceptRanges), ("unicode/utf8.first", laid_unicode_utf8_first)] }
def XcharBackSaid : Prop := xcharBackRow.holds Tryd.pinned (OpenSpec.ofChange xcharBackSpec)

/-- ITS FALSE NEIGHBOUR: 'it returns false'. Refute it at one input. -/
def xcharBackWrong : ChangeSpec := { name := "xcharBack", fn := fun _ => fun
  | [d1, d2] => { results := [.lit (.bool false)], args := [d1, d2] }
  | _ => none }
def XcharBackWrongFalsely : Prop := xcharBackRow.holds Tryd.pinned (OpenSpec.ofChange xcharBackWrong)

/-- 'stencillaw05.XplexJoins': WHATEVER THE INPUT: true; the input reads as it did. -/
def xplexJoinsSpec : ChangeSpec := { name := "xplexJoins", fn := fun _ => fun
  | [d1, d2] => { results := [.lit (.bool true)], args := [d1, d2] }
  | _ => none }
def xplexJoinsRow : OpenClaim := { program := "ytinefoocajnhmaadoor", sum := "91d146861d406bd3ac104d0a576453b1fb7dc82a648f491e71c8410d33b25eff", func := "stencil/stencillaw05.XplexJoins", spec := "xplexJoins", inPlace := ["internal/bytealg.IndexByteString", "internal/bytealg.IndexString", "internal/abi.NoEscape", "internal/bytealg.MakeNoZero"], named := ["internal/bytealg.MaxLen", "unicode/utf8.first", "unicode/utf8.acceptRanges"], apart := false, laid := [("unicode/utf8.acceptRanges", laid_unicode_utf8_acceptRanges), ("unicode/utf8.first", laid_unicode_utf8_first)] }
def XplexJoinsSaid : Prop := xplexJoinsRow.holds Tryd.pinned (OpenSpec.ofChange xplexJoinsSpec)

/-- ITS FALSE NEIGHBOUR: 'it returns false'. Refute it at one input. -/
def xplexJoinsWrong : ChangeSpec := { name := "xplexJoins", fn := fun _ => fun
  | [d1, d2] => { results := [.lit (.bool false)], args := [d1, d2] }
  | _ => none }
def XplexJoinsWrongFalsely : Prop := xplexJoinsRow.holds Tryd.pinned (OpenSpec.ofChange xplexJoinsWrong)

/-- 'stencillaw05.XplexBack': WHATEVER THE INPUT: true; the input reads as it did. -/
def xplexBackSpec : ChangeSpec := { name := "xplexBack", fn := fun _ => fun
  | [d] => { results := [.lit (.bool true)], args := [d] }
  | _ => none }
def xplexBackRow : OpenClaim := { program := "ytinefoocajnhmaadoor", sum := "91d146861d406bd3ac104d0a576453b1fb7dc82a648f491e71c8410d33b25eff", func := "stencil/stencillaw05.XplexBack", spec := "xplexBack", inPlace := ["internal/bytealg.IndexByteString", "internal/bytealg.IndexString", "internal/abi.NoEscape", "internal/bytealg.MakeNoZero"], named := ["unicode/utf8.first", "unicode/utf8.acceptRanges", "internal/bytealg.MaxLen"], apart := false, laid := [("unicode/utf8.acceptRanges", laid_unicode_utf8_acceptRanges), ("unicode/utf8.first", laid_unicode_utf8_first)] }
def XplexBackSaid : Prop := xplexBackRow.holds Tryd.pinned (OpenSpec.ofChange xplexBackSpec)

/-- ITS FALSE NEIGHBOUR: 'it returns false'. Refute it at one input. -/
def xplexBackWrong : ChangeSpec := { name := "xplexBack", fn := fun _ => fun
  | [d] => { results := [.lit (.bool false)], args := [d] }
  | _ => none }
def XplexBackWrongFalsely : Prop := xplexBackRow.holds Tryd.pinned (OpenSpec.ofChange xplexBackWrong)

/- THE SECOND FORM. 'bulk': how many values and letters a reading holds, each counted each time it is reached (what is shared counts as often as it is met; a slice's spare places count too). A statement '..UptoSaid' is the law's where the arguments, and the package variables that the reading takes, are together of bulk at most 1048576: NARROWER than '..Said'. Prove '..Said' where nothing that the law and all that it calls make is longer than what came in: it says more and counts as full. Else prove '..UptoSaid'. A law counts once. -/
mutual
def uptoBulk {H : Type} : DataW H → Nat
  | .lit (.string bytes) => bytes.length + 1
  | .lit _ => 1
  | .nil => 1
  | .ptr d => uptoBulk d + 1
  | .slice elems spare => uptoBulkAll elems + uptoBulkAll spare + 1
  | .agg parts => uptoBulkAll parts + 1
  | .iface _ d => uptoBulk d + 1
  | .map entries => uptoBulkEntries entries + 1
  | .held _ => 1
def uptoBulkAll {H : Type} : List (DataW H) → Nat
  | [] => 0
  | d :: r => uptoBulk d + uptoBulkAll r
def uptoBulkEntries {H : Type} : List (Lit × DataW H) → Nat
  | [] => 0
  | x :: r => uptoBulkEntry x + uptoBulkEntries r
def uptoBulkEntry {H : Type} : Lit × DataW H → Nat
  | (.string bytes, d) => bytes.length + uptoBulk d + 1
  | (_, d) => uptoBulk d + 1
 end
def uptoSmall : (H : Type) → List (DataW H) → Bool := fun _ ds => decide (uptoBulkAll ds ≤ 1048576)
def OpenSpec.upto (s : _root_.Go.ChangeSpec) : _root_.Go.OpenSpec := { _root_.Go.OpenSpec.ofChange s with cond := some uptoSmall }

/-- 'stencillaw05.XplexBlanks', WHERE WHAT IT READS IS OF BULK AT MOST 1048576: true; the input reads as it did. -/
def xplexBlanksUptoRow : OpenClaim := { program := "ytinefoocajnhmaadoor", sum := "91d146861d406bd3ac104d0a576453b1fb7dc82a648f491e71c8410d33b25eff", func := "stencil/stencillaw05.XplexBlanks", spec := "xplexBlanks", inPlace := ["internal/bytealg.IndexByteString", "internal/bytealg.IndexString"], named := ["unicode/utf8.first", "unicode/utf8.acceptRanges", "internal/bytealg.MaxLen"], apart := false, laid := [("unicode/utf8.acceptRanges", laid_unicode_utf8_acceptRanges), ("unicode/utf8.first", laid_unicode_utf8_first)], narrowed := true }
def XplexBlanksUptoSaid : Prop := xplexBlanksUptoRow.holds Tryd.pinned (OpenSpec.upto xplexBlanksSpec)

/-- 'stencillaw05.XplexNames', WHERE WHAT IT READS IS OF BULK AT MOST 1048576: true; the input reads as it did. -/
def xplexNamesUptoRow : OpenClaim := { program := "ytinefoocajnhmaadoor", sum := "91d146861d406bd3ac104d0a576453b1fb7dc82a648f491e71c8410d33b25eff", func := "stencil/stencillaw05.XplexNames", spec := "xplexNames", inPlace := ["internal/bytealg.IndexByteString", "internal/bytealg.IndexString"], named := ["unicode/utf8.first", "unicode/utf8.acceptRanges", "internal/bytealg.MaxLen"], apart := false, laid := [("unicode/utf8.acceptRanges", laid_unicode_utf8_acceptRanges), ("unicode/utf8.first", laid_unicode_utf8_first)], narrowed := true }
def XplexNamesUptoSaid : Prop := xplexNamesUptoRow.holds Tryd.pinned (OpenSpec.upto xplexNamesSpec)

/-- 'stencillaw05.XplexPlaces', WHERE WHAT IT READS IS OF BULK AT MOST 1048576: true; the input reads as it did. -/
def xplexPlacesUptoRow : OpenClaim := { program := "ytinefoocajnhmaadoor", sum := "91d146861d406bd3ac104d0a576453b1fb7dc82a648f491e71c8410d33b25eff", func := "stencil/stencillaw05.XplexPlaces", spec := "xplexPlaces", inPlace := ["internal/bytealg.IndexByteString", "internal/bytealg.IndexString"], named := ["unicode/utf8.first", "unicode/utf8.acceptRanges", "internal/bytealg.MaxLen"], apart := false, laid := [("unicode/utf8.acceptRanges", laid_unicode_utf8_acceptRanges), ("unicode/utf8.first", laid_unicode_utf8_first)], narrowed := true }
def XplexPlacesUptoSaid : Prop := xplexPlacesUptoRow.holds Tryd.pinned (OpenSpec.upto xplexPlacesSpec)

/-- 'stencillaw05.XplexLiterals', WHERE WHAT IT READS IS OF BULK AT MOST 1048576: true; the input reads as it did. -/
def xplexLiteralsUptoRow : OpenClaim := { program := "ytinefoocajnhmaadoor", sum := "91d146861d406bd3ac104d0a576453b1fb7dc82a648f491e71c8410d33b25eff", func := "stencil/stencillaw05.XplexLiterals", spec := "xplexLiterals", inPlace := ["internal/bytealg.IndexByteString", "internal/bytealg.IndexString"], named := ["internal/bytealg.MaxLen", "unicode/utf8.first", "unicode/utf8.acceptRanges"], apart := false, laid := [("unicode/utf8.acceptRanges", laid_unicode_utf8_acceptRanges), ("unicode/utf8.first", laid_unicode_utf8_first)], narrowed := true }
def XplexLiteralsUptoSaid : Prop := xplexLiteralsUptoRow.holds Tryd.pinned (OpenSpec.upto xplexLiteralsSpec)

/-- 'stencillaw01.XcharDecodes', WHERE WHAT IT READS IS OF BULK AT MOST 1048576: true; the input reads as it did. -/
def xcharDecodesUptoRow : OpenClaim := { program := "ytinefoocajnhmaadoor", sum := "91d146861d406bd3ac104d0a576453b1fb7dc82a648f491e71c8410d33b25eff", func := "stencil/stencillaw01.XcharDecodes", spec := "xcharDecodes", inPlace := ["internal/abi.NoEscape", "internal/bytealg.CountString", "internal/bytealg.IndexByteString", "internal/bytealg.IndexString", "internal/bytealg.MakeNoZero"], unfollowed := true, recurses := true, named := ["internal/bytealg.MaxLen", "unicode/utf8.first", "unicode/utf8.acceptRanges"], apart := false, laid := [("unicode/utf8.acceptRanges", laid_unicode_utf8_acceptRanges), ("unicode/utf8.first", laid_unicode_utf8_first)], narrowed := true }
def XcharDecodesUptoSaid : Prop := xcharDecodesUptoRow.holds Tryd.pinned (OpenSpec.upto xcharDecodesSpec)

/-- 'stencillaw01.XcharKinds', WHERE WHAT IT READS IS OF BULK AT MOST 1048576: true; the input reads as it did. -/
def xcharKindsUptoRow : OpenClaim := { program := "ytinefoocajnhmaadoor", sum := "91d146861d406bd3ac104d0a576453b1fb7dc82a648f491e71c8410d33b25eff", func := "stencil/stencillaw01.XcharKinds", spec := "xcharKinds", inPlace := ["internal/abi.NoEscape", "internal/bytealg.CountString", "internal/bytealg.IndexByteString", "internal/bytealg.IndexString", "internal/bytealg.MakeNoZero"], unfollowed := true, recurses := true, named := ["internal/bytealg.MaxLen", "unicode/utf8.first", "unicode/utf8.acceptRanges"], apart := false, laid := [("unicode/utf8.acceptRanges", laid_unicode_utf8_acceptRanges), ("unicode/utf8.first", laid_unicode_utf8_first)], narrowed := true }
def XcharKindsUptoSaid : Prop := xcharKindsUptoRow.holds Tryd.pinned (OpenSpec.upto xcharKindsSpec)

/-- 'stencillaw01.XcharJoins', WHERE WHAT IT READS IS OF BULK AT MOST 1048576: true; the input reads as it did. -/
def xcharJoinsUptoRow : OpenClaim := { program := "ytinefoocajnhmaadoor", sum := "91d146861d406bd3ac104d0a576453b1fb7dc82a648f491e71c8410d33b25eff", func := "stencil/stencillaw01.XcharJoins", spec := "xcharJoins", inPlace := ["internal/bytealg.IndexByteString", "internal/bytealg.IndexString", "internal/abi.NoEscape", "internal/bytealg.CountString", "internal/bytealg.MakeNoZero"], unfollowed := true, recurses := true, named := ["internal/bytealg.MaxLen", "unicode/utf8.first", "unicode/utf8.acceptRanges"], apart := false, laid := [("unicode/utf8.acceptRanges", laid_unicode_utf8_acceptRanges), ("unicode/utf8.first", laid_unicode_utf8_first)], narrowed := true }
def XcharJoinsUptoSaid : Prop := xcharJoinsUptoRow.holds Tryd.pinned (OpenSpec.upto xcharJoinsSpec)

/-- 'stencillaw01.XcharTrims', WHERE WHAT IT READS IS OF BULK AT MOST 1048576: true; the input reads as it did. -/
def xcharTrimsUptoRow : OpenClaim := { program := "ytinefoocajnhmaadoor", sum := "91d146861d406bd3ac104d0a576453b1fb7dc82a648f491e71c8410d33b25eff", func := "stencil/stencillaw01.XcharTrims", spec := "xcharTrims", inPlace := ["internal/abi.NoEscape", "internal/bytealg.MakeNoZero", "internal/bytealg.CountString", "internal/bytealg.IndexByteString", "internal/bytealg.IndexString"], unfollowed := true, recurses := true, named := ["internal/bytealg.MaxLen", "unicode/utf8.first", "unicode/utf8.acceptRanges"], apart := false, laid := [("unicode/utf8.acceptRanges", laid_unicode_utf8_acceptRanges), ("unicode/utf8.first", laid_unicode_utf8_first)], narrowed := true }
def XcharTrimsUptoSaid : Prop := xcharTrimsUptoRow.holds Tryd.pinned (OpenSpec.upto xcharTrimsSpec)

/-- 'stencillaw01.XcharLines', WHERE WHAT IT READS IS OF BULK AT MOST 1048576: true; the input reads as it did. -/
def xcharLinesUptoRow : OpenClaim := { program := "ytinefoocajnhmaadoor", sum := "91d146861d406bd3ac104d0a576453b1fb7dc82a648f491e71c8410d33b25eff", func := "stencil/stencillaw01.XcharLines", spec := "xcharLines", inPlace := ["internal/abi.NoEscape", "internal/bytealg.CountString", "internal/bytealg.IndexByteString", "internal/bytealg.IndexString", "internal/bytealg.MakeNoZero"], unfollowed := true, recurses := true, named := ["internal/bytealg.MaxLen", "unicode/utf8.first", "unicode/utf8.acceptRanges"], apart := false, laid := [("unicode/utf8.acceptRanges", laid_unicode_utf8_acceptRanges), ("unicode/utf8.first", laid_unicode_utf8_first)], narrowed := true }
def XcharLinesUptoSaid : Prop := xcharLinesUptoRow.holds Tryd.pinned (OpenSpec.upto xcharLinesSpec)

/-- 'stencillaw01.XcharNames', WHERE WHAT IT READS IS OF BULK AT MOST 1048576: true; the input reads as it did. -/
def xcharNamesUptoRow : OpenClaim := { program := "ytinefoocajnhmaadoor", sum := "91d146861d406bd3ac104d0a576453b1fb7dc82a648f491e71c8410d33b25eff", func := "stencil/stencillaw01.XcharNames", spec := "xcharNames", inPlace := ["internal/bytealg.IndexByteString", "internal/bytealg.IndexString", "internal/abi.NoEscape", "internal/bytealg.CountString", "internal/bytealg.MakeNoZero"], unfollowed := true, recurses := true, named := ["internal/bytealg.MaxLen", "unicode/utf8.first", "unicode/utf8.acceptRanges"], apart := false, laid := [("unicode/utf8.acceptRanges", laid_unicode_utf8_acceptRanges), ("unicode/utf8.first", laid_unicode_utf8_first)], narrowed := true }
def XcharNamesUptoSaid : Prop := xcharNamesUptoRow.holds Tryd.pinned (OpenSpec.upto xcharNamesSpec)

/-- 'stencillaw01.XcharParts', WHERE WHAT IT READS IS OF BULK AT MOST 1048576: true; the input reads as it did. -/
def xcharPartsUptoRow : OpenClaim := { program := "ytinefoocajnhmaadoor", sum := "91d146861d406bd3ac104d0a576453b1fb7dc82a648f491e71c8410d33b25eff", func := "stencil/stencillaw01.XcharParts", spec := "xcharParts", inPlace := ["internal/abi.NoEscape", "internal/bytealg.CountString", "internal/bytealg.IndexByteString", "internal/bytealg.IndexString", "internal/bytealg.MakeNoZero"], unfollowed := true, recurses := true, named := ["internal/bytealg.MaxLen", "unicode/utf8.first", "unicode/utf8.acceptRanges"], apart := false, laid := [("unicode/utf8.acceptRanges", laid_unicode_utf8_acceptRanges), ("unicode/utf8.first", laid_unicode_utf8_first)], narrowed := true }
def XcharPartsUptoSaid : Prop := xcharPartsUptoRow.holds Tryd.pinned (OpenSpec.upto xcharPartsSpec)

/-- 'stencillaw01.XcharEncodes', WHERE WHAT IT READS IS OF BULK AT MOST 1048576: true; the input reads as it did. -/
def xcharEncodesUptoRow : OpenClaim := { program := "ytinefoocajnhmaadoor", sum := "91d146861d406bd3ac104d0a576453b1fb7dc82a648f491e71c8410d33b25eff", func := "stencil/stencillaw01.XcharEncodes", spec := "xcharEncodes", inPlace := ["internal/abi.NoEscape", "internal/bytealg.CountString", "internal/bytealg.IndexByteString", "internal/bytealg.IndexString", "internal/bytealg.MakeNoZero"], unfollowed := true, recurses := true, named := ["unicode/utf8.first", "unicode/utf8.acceptRanges", "internal/bytealg.MaxLen"], apart := false, laid := [("unicode/utf8.acceptRanges", laid_unicode_utf8_acceptRanges), ("unicode/utf8.first", laid_unicode_utf8_first)], narrowed := true }
def XcharEncodesUptoSaid : Prop := xcharEncodesUptoRow.holds Tryd.pinned (OpenSpec.upto xcharEncodesSpec)

/-- 'stencillaw01.XcharBack', WHERE WHAT IT READS IS OF BULK AT MOST 1048576: true; the input reads as it did. -/
def xcharBackUptoRow : OpenClaim := { program := "ytinefoocajnhmaadoor", sum := "91d146861d406bd3ac104d0a576453b1fb7dc82a648f491e71c8410d33b25eff", func := "stencil/stencillaw01.XcharBack", spec := "xcharBack", inPlace := ["internal/abi.NoEscape", "internal/bytealg.CountString", "internal/bytealg.IndexByteString", "internal/bytealg.IndexString", "internal/bytealg.MakeNoZero"], unfollowed := true, recurses := true, named := ["unicode/utf8.first", "unicode/utf8.acceptRanges", "internal/bytealg.MaxLen"], apart := false, laid := [("unicode/utf8.acceptRanges", laid_unicode_utf8_acceptRanges), ("unicode/utf8.first", laid_unicode_utf8_first)], narrowed := true }
def XcharBackUptoSaid : Prop := xcharBackUptoRow.holds Tryd.pinned (OpenSpec.upto xcharBackSpec)

/-- 'stencillaw05.XplexJoins', WHERE WHAT IT READS IS OF BULK AT MOST 1048576: true; the input reads as it did. -/
def xplexJoinsUptoRow : OpenClaim := { program := "ytinefoocajnhmaadoor", sum := "91d146861d406bd3ac104d0a576453b1fb7dc82a648f491e71c8410d33b25eff", func := "stencil/stencillaw05.XplexJoins", spec := "xplexJoins", inPlace := ["internal/bytealg.IndexByteString", "internal/bytealg.IndexString", "internal/abi.NoEscape", "internal/bytealg.MakeNoZero"], named := ["internal/bytealg.MaxLen", "unicode/utf8.first", "unicode/utf8.acceptRanges"], apart := false, laid := [("unicode/utf8.acceptRanges", laid_unicode_utf8_acceptRanges), ("unicode/utf8.first", laid_unicode_utf8_first)], narrowed := true }
def XplexJoinsUptoSaid : Prop := xplexJoinsUptoRow.holds Tryd.pinned (OpenSpec.upto xplexJoinsSpec)

/-- 'stencillaw05.XplexBack', WHERE WHAT IT READS IS OF BULK AT MOST 1048576: true; the input reads as it did. -/
def xplexBackUptoRow : OpenClaim := { program := "ytinefoocajnhmaadoor", sum := "91d146861d406bd3ac104d0a576453b1fb7dc82a648f491e71c8410d33b25eff", func := "stencil/stencillaw05.XplexBack", spec := "xplexBack", inPlace := ["internal/bytealg.IndexByteString", "internal/bytealg.IndexString", "internal/abi.NoEscape", "internal/bytealg.MakeNoZero"], named := ["unicode/utf8.first", "unicode/utf8.acceptRanges", "internal/bytealg.MaxLen"], apart := false, laid := [("unicode/utf8.acceptRanges", laid_unicode_utf8_acceptRanges), ("unicode/utf8.first", laid_unicode_utf8_first)], narrowed := true }
def XplexBackUptoSaid : Prop := xplexBackUptoRow.holds Tryd.pinned (OpenSpec.upto xplexBackSpec)

end Rows
end Go.Proofs.YtinefoocajnhmaaDoor
