/-
  DERIVED. GIVEN WITH THE SEED: THE CARDS: each row of YtejhagejjogbaaaDoorRows.lean that lists a variable, with what it lists TIED to the program's text (the seventh form; the later family's looks); each row that meets fmt, with fmt's text TOLD by the authors' own Lean function (tested against real Go, not proved from fmt's source: count such statements apart). THE CARD IS WHAT COUNTS. Prove the row's statement (the work); the ties are given (YtejhagejjogbaaaDoorTie.lean); close each card by the builder's one call (the guide's Derived/Test/ToyasCard.lean, 'card_holds'). Laid BY PROGRAM, IN A SANDBOX (cutbox-door.mjs). By AI agents, Wed Nov 11 2026. No macro, syntax, notation, axiom, sorry.
-/
import Derived.Test.YtejhagejjogbaaaDoorRows
import GoSem.ClaimSeven
namespace Go.Proofs.YtejhagejjogbaaaDoor
namespace Rows

/-- THE TIED CARD OF 'pidginlaw03.NumberBack'. -/
def numberBackCard : Claim7 := { stood := { row := numberBackRow, standIns := [], harness := (true, "e778780ef46e1dcd067f177224e856a7dbd3e89bf5b171939b65dc34e33be682"), looks := false }, kinds := [], alts := [], laidByText := true, laidKinds := [.data, .pinned], laidTests := true, laidLooks := .later }
def NumberBackCardSaid : Prop := Claim7.holds Tryd.pinned (.plain (OpenSpec.ofChange numberBackSpec)) numberBackCard

/-- THE TIED CARD OF 'pidginlaw03.NumberQuotes'. -/
def numberQuotesCard : Claim7 := { stood := { row := numberQuotesRow, standIns := [], harness := (true, "e778780ef46e1dcd067f177224e856a7dbd3e89bf5b171939b65dc34e33be682"), looks := false }, kinds := [], alts := [], laidByText := true, laidKinds := [.data, .pinned], laidTests := true, laidLooks := .later }
def NumberQuotesCardSaid : Prop := Claim7.holds Tryd.pinned (.plain (OpenSpec.ofChange numberQuotesSpec)) numberQuotesCard

/-- THE TIED CARD OF 'pidginlaw04.TokenLines'. -/
def tokenLinesCard : Claim7 := { stood := { row := tokenLinesRow, standIns := [], harness := (true, "e778780ef46e1dcd067f177224e856a7dbd3e89bf5b171939b65dc34e33be682"), looks := false }, kinds := [], alts := [], laidByText := true, laidKinds := [.data, .pinned], laidTests := true, laidLooks := .later }
def TokenLinesCardSaid : Prop := Claim7.holds Tryd.pinned (.plain (OpenSpec.ofChange tokenLinesSpec)) tokenLinesCard

/-- THE TIED CARD OF 'pidginlaw04.TokenSpaces'. -/
def tokenSpacesCard : Claim7 := { stood := { row := tokenSpacesRow, standIns := [], harness := (true, "e778780ef46e1dcd067f177224e856a7dbd3e89bf5b171939b65dc34e33be682"), looks := false }, kinds := [], alts := [], laidByText := true, laidKinds := [.data, .pinned], laidTests := true, laidLooks := .later }
def TokenSpacesCardSaid : Prop := Claim7.holds Tryd.pinned (.plain (OpenSpec.ofChange tokenSpacesSpec)) tokenSpacesCard

/-- THE TIED CARD OF 'pidginlaw04.TokenKinds'. -/
def tokenKindsCard : Claim7 := { stood := { row := tokenKindsRow, standIns := [], harness := (true, "e778780ef46e1dcd067f177224e856a7dbd3e89bf5b171939b65dc34e33be682"), looks := false }, kinds := [], alts := [], laidByText := true, laidKinds := [.data, .pinned], laidTests := true, laidLooks := .later }
def TokenKindsCardSaid : Prop := Claim7.holds Tryd.pinned (.plain (OpenSpec.ofChange tokenKindsSpec)) tokenKindsCard

/-- THE TIED CARD OF 'pidginlaw04.TokenParts'. -/
def tokenPartsCard : Claim7 := { stood := { row := tokenPartsRow, standIns := [], harness := (true, "e778780ef46e1dcd067f177224e856a7dbd3e89bf5b171939b65dc34e33be682"), looks := false }, kinds := [], alts := [], laidByText := true, laidKinds := [.data, .pinned], laidTests := true, laidLooks := .later }
def TokenPartsCardSaid : Prop := Claim7.holds Tryd.pinned (.plain (OpenSpec.ofChange tokenPartsSpec)) tokenPartsCard

/-- THE TIED CARD OF 'pidginlaw04.TokenBack'. -/
def tokenBackCard : Claim7 := { stood := { row := tokenBackRow, standIns := [], harness := (true, "e778780ef46e1dcd067f177224e856a7dbd3e89bf5b171939b65dc34e33be682"), looks := false }, kinds := [], alts := [], laidByText := true, laidKinds := [.data, .pinned], laidTests := true, laidLooks := .later }
def TokenBackCardSaid : Prop := Claim7.holds Tryd.pinned (.plain (OpenSpec.ofChange tokenBackSpec)) tokenBackCard

/-- THE TIED CARD OF 'pidginlaw05.ExprEvals'. -/
def exprEvalsCard : Claim7 := { stood := { row := exprEvalsRow, standIns := [], harness := (true, "e778780ef46e1dcd067f177224e856a7dbd3e89bf5b171939b65dc34e33be682"), looks := false }, kinds := [], alts := [], laidByText := true, laidKinds := [.data, .pinned], laidTests := true, laidLooks := .later }
def ExprEvalsCardSaid : Prop := Claim7.holds Tryd.pinned (.plain (OpenSpec.ofChange exprEvalsSpec)) exprEvalsCard

/-- THE TIED CARD OF 'pidginlaw05.ExprBack'. -/
def exprBackCard : Claim7 := { stood := { row := exprBackRow, standIns := [], harness := (true, "e778780ef46e1dcd067f177224e856a7dbd3e89bf5b171939b65dc34e33be682"), looks := false }, kinds := [], alts := [], laidByText := true, laidKinds := [.data, .pinned], laidTests := true, laidLooks := .later }
def ExprBackCardSaid : Prop := Claim7.holds Tryd.pinned (.plain (OpenSpec.ofChange exprBackSpec)) exprBackCard

/-- THE TIED CARD OF 'pidginlaw05.ExprSums'. -/
def exprSumsCard : Claim7 := { stood := { row := exprSumsRow, standIns := [], harness := (true, "e778780ef46e1dcd067f177224e856a7dbd3e89bf5b171939b65dc34e33be682"), looks := false }, kinds := [], alts := [], laidByText := true, laidKinds := [.data, .pinned], laidTests := true, laidLooks := .later }
def ExprSumsCardSaid : Prop := Claim7.holds Tryd.pinned (.plain (OpenSpec.ofChange exprSumsSpec)) exprSumsCard

/-- THE TIED CARD OF 'pidginlaw05.ExprParts'. -/
def exprPartsCard : Claim7 := { stood := { row := exprPartsRow, standIns := [], harness := (true, "e778780ef46e1dcd067f177224e856a7dbd3e89bf5b171939b65dc34e33be682"), looks := false }, kinds := [], alts := [], laidByText := true, laidKinds := [.data, .pinned], laidTests := true, laidLooks := .later }
def ExprPartsCardSaid : Prop := Claim7.holds Tryd.pinned (.plain (OpenSpec.ofChange exprPartsSpec)) exprPartsCard

/-- THE TIED CARD OF 'pidginlaw05.ExprAlike'. -/
def exprAlikeCard : Claim7 := { stood := { row := exprAlikeRow, standIns := [], harness := (true, "e778780ef46e1dcd067f177224e856a7dbd3e89bf5b171939b65dc34e33be682"), looks := false }, kinds := [], alts := [], laidByText := true, laidKinds := [.data, .pinned], laidTests := true, laidLooks := .later }
def ExprAlikeCardSaid : Prop := Claim7.holds Tryd.pinned (.plain (OpenSpec.ofChange exprAlikeSpec)) exprAlikeCard

/-- THE TIED CARD OF 'pidginlaw09.Text86Words'. -/
def text86WordsCard : Claim7 := { stood := { row := text86WordsRow, standIns := [], harness := (true, "e778780ef46e1dcd067f177224e856a7dbd3e89bf5b171939b65dc34e33be682"), looks := false }, kinds := [], alts := [], laidByText := true, laidKinds := [.data, .data, .data, .data, .listed, .data, .pinned], laidTests := true, laidLooks := .later }
def Text86WordsCardSaid : Prop := Claim7.holds Tryd.pinned (.plain (OpenSpec.ofChange text86WordsSpec)) text86WordsCard

/-- THE TIED CARD OF 'pidginlaw09.Text86Against'. -/
def text86AgainstCard : Claim7 := { stood := { row := text86AgainstRow, standIns := [], harness := (true, "e778780ef46e1dcd067f177224e856a7dbd3e89bf5b171939b65dc34e33be682"), looks := false }, kinds := [], alts := [], laidByText := true, laidKinds := [.data, .data, .data, .data, .listed, .data, .pinned], laidTests := true, laidLooks := .later }
def Text86AgainstCardSaid : Prop := Claim7.holds Tryd.pinned (.plain (OpenSpec.ofChange text86AgainstSpec)) text86AgainstCard

/-- THE TIED CARD OF 'pidginlaw09.Text86Args'. -/
def text86ArgsCard : Claim7 := { stood := { row := text86ArgsRow, standIns := [], harness := (true, "e778780ef46e1dcd067f177224e856a7dbd3e89bf5b171939b65dc34e33be682"), looks := false }, kinds := [], alts := [], laidByText := true, laidKinds := [.data, .data, .data, .data, .listed, .data, .pinned], laidTests := true, laidLooks := .later }
def Text86ArgsCardSaid : Prop := Claim7.holds Tryd.pinned (.plain (OpenSpec.ofChange text86ArgsSpec)) text86ArgsCard

/-- THE TIED CARD OF 'pidginlaw09.Text86Names'. -/
def text86NamesCard : Claim7 := { stood := { row := text86NamesRow, standIns := [], harness := (true, "e778780ef46e1dcd067f177224e856a7dbd3e89bf5b171939b65dc34e33be682"), looks := false }, kinds := [], alts := [], laidByText := true, laidKinds := [.data, .data, .data, .data, .listed, .data, .pinned], laidTests := true, laidLooks := .later }
def Text86NamesCardSaid : Prop := Claim7.holds Tryd.pinned (.plain (OpenSpec.ofChange text86NamesSpec)) text86NamesCard

/-- THE TIED CARD OF 'pidginlaw09.Text86Back'. -/
def text86BackCard : Claim7 := { stood := { row := text86BackRow, standIns := [], harness := (true, "e778780ef46e1dcd067f177224e856a7dbd3e89bf5b171939b65dc34e33be682"), looks := false }, kinds := [], alts := [], laidByText := true, laidKinds := [.data, .data, .data, .data, .listed, .data, .pinned], laidTests := true, laidLooks := .later }
def Text86BackCardSaid : Prop := Claim7.holds Tryd.pinned (.plain (OpenSpec.ofChange text86BackSpec)) text86BackCard

/-- THE SECOND FORM's CARD OF 'pidginlaw03.NumberBack'. -/
def numberBackUptoCard : Claim7 := { stood := { row := numberBackUptoRow, standIns := [], harness := (true, "e778780ef46e1dcd067f177224e856a7dbd3e89bf5b171939b65dc34e33be682"), looks := false }, kinds := [], alts := [], laidByText := true, laidKinds := [.data, .pinned], laidTests := true, laidLooks := .later }
def NumberBackUptoCardSaid : Prop := Claim7.holds Tryd.pinned (.plain (OpenSpec.upto numberBackSpec)) numberBackUptoCard

/-- THE SECOND FORM's CARD OF 'pidginlaw03.NumberQuotes'. -/
def numberQuotesUptoCard : Claim7 := { stood := { row := numberQuotesUptoRow, standIns := [], harness := (true, "e778780ef46e1dcd067f177224e856a7dbd3e89bf5b171939b65dc34e33be682"), looks := false }, kinds := [], alts := [], laidByText := true, laidKinds := [.data, .pinned], laidTests := true, laidLooks := .later }
def NumberQuotesUptoCardSaid : Prop := Claim7.holds Tryd.pinned (.plain (OpenSpec.upto numberQuotesSpec)) numberQuotesUptoCard

/-- THE SECOND FORM's CARD OF 'pidginlaw04.TokenLines'. -/
def tokenLinesUptoCard : Claim7 := { stood := { row := tokenLinesUptoRow, standIns := [], harness := (true, "e778780ef46e1dcd067f177224e856a7dbd3e89bf5b171939b65dc34e33be682"), looks := false }, kinds := [], alts := [], laidByText := true, laidKinds := [.data, .pinned], laidTests := true, laidLooks := .later }
def TokenLinesUptoCardSaid : Prop := Claim7.holds Tryd.pinned (.plain (OpenSpec.upto tokenLinesSpec)) tokenLinesUptoCard

/-- THE SECOND FORM's CARD OF 'pidginlaw04.TokenSpaces'. -/
def tokenSpacesUptoCard : Claim7 := { stood := { row := tokenSpacesUptoRow, standIns := [], harness := (true, "e778780ef46e1dcd067f177224e856a7dbd3e89bf5b171939b65dc34e33be682"), looks := false }, kinds := [], alts := [], laidByText := true, laidKinds := [.data, .pinned], laidTests := true, laidLooks := .later }
def TokenSpacesUptoCardSaid : Prop := Claim7.holds Tryd.pinned (.plain (OpenSpec.upto tokenSpacesSpec)) tokenSpacesUptoCard

/-- THE SECOND FORM's CARD OF 'pidginlaw04.TokenKinds'. -/
def tokenKindsUptoCard : Claim7 := { stood := { row := tokenKindsUptoRow, standIns := [], harness := (true, "e778780ef46e1dcd067f177224e856a7dbd3e89bf5b171939b65dc34e33be682"), looks := false }, kinds := [], alts := [], laidByText := true, laidKinds := [.data, .pinned], laidTests := true, laidLooks := .later }
def TokenKindsUptoCardSaid : Prop := Claim7.holds Tryd.pinned (.plain (OpenSpec.upto tokenKindsSpec)) tokenKindsUptoCard

/-- THE SECOND FORM's CARD OF 'pidginlaw04.TokenParts'. -/
def tokenPartsUptoCard : Claim7 := { stood := { row := tokenPartsUptoRow, standIns := [], harness := (true, "e778780ef46e1dcd067f177224e856a7dbd3e89bf5b171939b65dc34e33be682"), looks := false }, kinds := [], alts := [], laidByText := true, laidKinds := [.data, .pinned], laidTests := true, laidLooks := .later }
def TokenPartsUptoCardSaid : Prop := Claim7.holds Tryd.pinned (.plain (OpenSpec.upto tokenPartsSpec)) tokenPartsUptoCard

/-- THE SECOND FORM's CARD OF 'pidginlaw04.TokenBack'. -/
def tokenBackUptoCard : Claim7 := { stood := { row := tokenBackUptoRow, standIns := [], harness := (true, "e778780ef46e1dcd067f177224e856a7dbd3e89bf5b171939b65dc34e33be682"), looks := false }, kinds := [], alts := [], laidByText := true, laidKinds := [.data, .pinned], laidTests := true, laidLooks := .later }
def TokenBackUptoCardSaid : Prop := Claim7.holds Tryd.pinned (.plain (OpenSpec.upto tokenBackSpec)) tokenBackUptoCard

/-- THE SECOND FORM's CARD OF 'pidginlaw05.ExprEvals'. -/
def exprEvalsUptoCard : Claim7 := { stood := { row := exprEvalsUptoRow, standIns := [], harness := (true, "e778780ef46e1dcd067f177224e856a7dbd3e89bf5b171939b65dc34e33be682"), looks := false }, kinds := [], alts := [], laidByText := true, laidKinds := [.data, .pinned], laidTests := true, laidLooks := .later }
def ExprEvalsUptoCardSaid : Prop := Claim7.holds Tryd.pinned (.plain (OpenSpec.upto exprEvalsSpec)) exprEvalsUptoCard

/-- THE SECOND FORM's CARD OF 'pidginlaw05.ExprBack'. -/
def exprBackUptoCard : Claim7 := { stood := { row := exprBackUptoRow, standIns := [], harness := (true, "e778780ef46e1dcd067f177224e856a7dbd3e89bf5b171939b65dc34e33be682"), looks := false }, kinds := [], alts := [], laidByText := true, laidKinds := [.data, .pinned], laidTests := true, laidLooks := .later }
def ExprBackUptoCardSaid : Prop := Claim7.holds Tryd.pinned (.plain (OpenSpec.upto exprBackSpec)) exprBackUptoCard

/-- THE SECOND FORM's CARD OF 'pidginlaw05.ExprSums'. -/
def exprSumsUptoCard : Claim7 := { stood := { row := exprSumsUptoRow, standIns := [], harness := (true, "e778780ef46e1dcd067f177224e856a7dbd3e89bf5b171939b65dc34e33be682"), looks := false }, kinds := [], alts := [], laidByText := true, laidKinds := [.data, .pinned], laidTests := true, laidLooks := .later }
def ExprSumsUptoCardSaid : Prop := Claim7.holds Tryd.pinned (.plain (OpenSpec.upto exprSumsSpec)) exprSumsUptoCard

/-- THE SECOND FORM's CARD OF 'pidginlaw05.ExprParts'. -/
def exprPartsUptoCard : Claim7 := { stood := { row := exprPartsUptoRow, standIns := [], harness := (true, "e778780ef46e1dcd067f177224e856a7dbd3e89bf5b171939b65dc34e33be682"), looks := false }, kinds := [], alts := [], laidByText := true, laidKinds := [.data, .pinned], laidTests := true, laidLooks := .later }
def ExprPartsUptoCardSaid : Prop := Claim7.holds Tryd.pinned (.plain (OpenSpec.upto exprPartsSpec)) exprPartsUptoCard

/-- THE SECOND FORM's CARD OF 'pidginlaw05.ExprAlike'. -/
def exprAlikeUptoCard : Claim7 := { stood := { row := exprAlikeUptoRow, standIns := [], harness := (true, "e778780ef46e1dcd067f177224e856a7dbd3e89bf5b171939b65dc34e33be682"), looks := false }, kinds := [], alts := [], laidByText := true, laidKinds := [.data, .pinned], laidTests := true, laidLooks := .later }
def ExprAlikeUptoCardSaid : Prop := Claim7.holds Tryd.pinned (.plain (OpenSpec.upto exprAlikeSpec)) exprAlikeUptoCard

/-- THE SECOND FORM's CARD OF 'pidginlaw09.Text86Words'. -/
def text86WordsUptoCard : Claim7 := { stood := { row := text86WordsUptoRow, standIns := [], harness := (true, "e778780ef46e1dcd067f177224e856a7dbd3e89bf5b171939b65dc34e33be682"), looks := false }, kinds := [], alts := [], laidByText := true, laidKinds := [.data, .data, .data, .data, .listed, .data, .pinned], laidTests := true, laidLooks := .later }
def Text86WordsUptoCardSaid : Prop := Claim7.holds Tryd.pinned (.plain (OpenSpec.upto text86WordsSpec)) text86WordsUptoCard

/-- THE SECOND FORM's CARD OF 'pidginlaw09.Text86Against'. -/
def text86AgainstUptoCard : Claim7 := { stood := { row := text86AgainstUptoRow, standIns := [], harness := (true, "e778780ef46e1dcd067f177224e856a7dbd3e89bf5b171939b65dc34e33be682"), looks := false }, kinds := [], alts := [], laidByText := true, laidKinds := [.data, .data, .data, .data, .listed, .data, .pinned], laidTests := true, laidLooks := .later }
def Text86AgainstUptoCardSaid : Prop := Claim7.holds Tryd.pinned (.plain (OpenSpec.upto text86AgainstSpec)) text86AgainstUptoCard

/-- THE SECOND FORM's CARD OF 'pidginlaw09.Text86Args'. -/
def text86ArgsUptoCard : Claim7 := { stood := { row := text86ArgsUptoRow, standIns := [], harness := (true, "e778780ef46e1dcd067f177224e856a7dbd3e89bf5b171939b65dc34e33be682"), looks := false }, kinds := [], alts := [], laidByText := true, laidKinds := [.data, .data, .data, .data, .listed, .data, .pinned], laidTests := true, laidLooks := .later }
def Text86ArgsUptoCardSaid : Prop := Claim7.holds Tryd.pinned (.plain (OpenSpec.upto text86ArgsSpec)) text86ArgsUptoCard

/-- THE SECOND FORM's CARD OF 'pidginlaw09.Text86Names'. -/
def text86NamesUptoCard : Claim7 := { stood := { row := text86NamesUptoRow, standIns := [], harness := (true, "e778780ef46e1dcd067f177224e856a7dbd3e89bf5b171939b65dc34e33be682"), looks := false }, kinds := [], alts := [], laidByText := true, laidKinds := [.data, .data, .data, .data, .listed, .data, .pinned], laidTests := true, laidLooks := .later }
def Text86NamesUptoCardSaid : Prop := Claim7.holds Tryd.pinned (.plain (OpenSpec.upto text86NamesSpec)) text86NamesUptoCard

/-- THE SECOND FORM's CARD OF 'pidginlaw09.Text86Back'. -/
def text86BackUptoCard : Claim7 := { stood := { row := text86BackUptoRow, standIns := [], harness := (true, "e778780ef46e1dcd067f177224e856a7dbd3e89bf5b171939b65dc34e33be682"), looks := false }, kinds := [], alts := [], laidByText := true, laidKinds := [.data, .data, .data, .data, .listed, .data, .pinned], laidTests := true, laidLooks := .later }
def Text86BackUptoCardSaid : Prop := Claim7.holds Tryd.pinned (.plain (OpenSpec.upto text86BackSpec)) text86BackUptoCard
end Rows
end Go.Proofs.YtejhagejjogbaaaDoor
