/-
  DERIVED. GIVEN WITH THE SEED: THE CARDS: each row of YtghmjnbpkobooaaGreatDoorRows.lean that lists a variable, with what it lists TIED to the program's text (the seventh form; the later family's looks); each row that meets fmt, with fmt's text TOLD by the authors' own Lean function (tested against real Go, not proved from fmt's source: count such statements apart). THE CARD IS WHAT COUNTS. Prove the row's statement (the work); the ties are given (YtghmjnbpkobooaaGreatDoorTie.lean); close each card by the builder's one call (the guide's Derived/Test/ToyasCard.lean, 'card_holds'). Laid BY PROGRAM, IN A SANDBOX (cutbox-door.mjs). By AI agents, Wed Nov 11 2026. No macro, syntax, notation, axiom, sorry.
-/
import Derived.Test.YtghmjnbpkobooaaGreatDoorRows
import GoSem.ClaimSeven
namespace Go.Proofs.YtghmjnbpkobooaaGreatDoor
namespace Rows

/-- THE TIED CARD OF 'signatorytop.TopPolicy'. -/
def topPolicyCard : Claim7 := { stood := { row := topPolicyRow, standIns := [], harness := (true, "6dfbc9ab955ebfe709820a3f39b9f3e8b45f2ec5d23a756b48fd12bbbea2d69f"), looks := true }, kinds := [], alts := [], laidByText := true, laidKinds := [.data, .data, .data, .sentinel, .sentinel, .funcs], laidTests := true, laidLooks := .later }
def TopPolicyCardSaid : Prop := Claim7.holds Tryz.pinned (.plain (OpenSpec.ofChange topPolicySpec)) topPolicyCard

/-- THE TIED CARD OF 'signatorylaw19.SyntaxPrintSpec'. -/
def syntaxPrintSpecCard : Claim7 := { stood := { row := syntaxPrintSpecRow, standIns := [], harness := (true, "6dfbc9ab955ebfe709820a3f39b9f3e8b45f2ec5d23a756b48fd12bbbea2d69f"), looks := true }, kinds := [], alts := [], laidByText := true, laidKinds := [.data, .data, .data, .sentinel, .sentinel], laidTests := true, laidLooks := .later }
def SyntaxPrintSpecCardSaid : Prop := Claim7.holds Tryz.pinned (.plain (OpenSpec.ofChange syntaxPrintSpecSpec)) syntaxPrintSpecCard

/-- THE TIED CARD OF 'signatorylaw19.SyntaxBack'. -/
def syntaxBackCard : Claim7 := { stood := { row := syntaxBackRow, standIns := [], harness := (true, "6dfbc9ab955ebfe709820a3f39b9f3e8b45f2ec5d23a756b48fd12bbbea2d69f"), looks := true }, kinds := [], alts := [], laidByText := true, laidKinds := [.data, .data, .data, .sentinel, .sentinel], laidTests := true, laidLooks := .later }
def SyntaxBackCardSaid : Prop := Claim7.holds Tryz.pinned (.plain (OpenSpec.ofChange syntaxBackSpec)) syntaxBackCard

/-- THE TIED CARD OF 'signatorylaw19.SyntaxSpaces'. -/
def syntaxSpacesCard : Claim7 := { stood := { row := syntaxSpacesRow, standIns := [], harness := (true, "6dfbc9ab955ebfe709820a3f39b9f3e8b45f2ec5d23a756b48fd12bbbea2d69f"), looks := true }, kinds := [], alts := [], laidByText := true, laidKinds := [.data, .data, .data, .sentinel, .sentinel], laidTests := true, laidLooks := .later }
def SyntaxSpacesCardSaid : Prop := Claim7.holds Tryz.pinned (.plain (OpenSpec.ofChange syntaxSpacesSpec)) syntaxSpacesCard

/-- THE TIED CARD OF 'signatorylaw19.SyntaxChange'. -/
def syntaxChangeCard : Claim7 := { stood := { row := syntaxChangeRow, standIns := [], harness := (true, "6dfbc9ab955ebfe709820a3f39b9f3e8b45f2ec5d23a756b48fd12bbbea2d69f"), looks := true }, kinds := [], alts := [], laidByText := true, laidKinds := [.data, .data, .data, .sentinel, .sentinel], laidTests := true, laidLooks := .later }
def SyntaxChangeCardSaid : Prop := Claim7.holds Tryz.pinned (.plain (OpenSpec.ofChange syntaxChangeSpec)) syntaxChangeCard

/-- THE TIED CARD OF 'signatorylaw19.SyntaxCut'. -/
def syntaxCutCard : Claim7 := { stood := { row := syntaxCutRow, standIns := [], harness := (true, "6dfbc9ab955ebfe709820a3f39b9f3e8b45f2ec5d23a756b48fd12bbbea2d69f"), looks := true }, kinds := [], alts := [], laidByText := true, laidKinds := [.data, .data, .data, .sentinel, .sentinel], laidTests := true, laidLooks := .later }
def SyntaxCutCardSaid : Prop := Claim7.holds Tryz.pinned (.plain (OpenSpec.ofChange syntaxCutSpec)) syntaxCutCard

/-- THE TIED CARD OF 'signatorylaw19.SyntaxInside'. -/
def syntaxInsideCard : Claim7 := { stood := { row := syntaxInsideRow, standIns := [], harness := (true, "6dfbc9ab955ebfe709820a3f39b9f3e8b45f2ec5d23a756b48fd12bbbea2d69f"), looks := true }, kinds := [], alts := [], laidByText := true, laidKinds := [.data, .data, .data, .sentinel, .sentinel], laidTests := true, laidLooks := .later }
def SyntaxInsideCardSaid : Prop := Claim7.holds Tryz.pinned (.plain (OpenSpec.ofChange syntaxInsideSpec)) syntaxInsideCard

/-- THE TIED CARD OF 'signatorylaw20.PoliciesPrinted'. -/
def policiesPrintedCard : Claim7 := { stood := { row := policiesPrintedRow, standIns := [], harness := (true, "6dfbc9ab955ebfe709820a3f39b9f3e8b45f2ec5d23a756b48fd12bbbea2d69f"), looks := true }, kinds := [], alts := [], laidByText := true, laidKinds := [.data, .data, .data, .sentinel, .sentinel, .funcs], laidTests := true, laidLooks := .later }
def PoliciesPrintedCardSaid : Prop := Claim7.holds Tryz.pinned (.plain (OpenSpec.ofChange policiesPrintedSpec)) policiesPrintedCard

/-- THE SECOND FORM's CARD OF 'signatorytop.TopPolicy'. -/
def topPolicyUptoCard : Claim7 := { stood := { row := topPolicyUptoRow, standIns := [], harness := (true, "6dfbc9ab955ebfe709820a3f39b9f3e8b45f2ec5d23a756b48fd12bbbea2d69f"), looks := true }, kinds := [], alts := [], laidByText := true, laidKinds := [.data, .data, .data, .sentinel, .sentinel, .funcs], laidTests := true, laidLooks := .later }
def TopPolicyUptoCardSaid : Prop := Claim7.holds Tryz.pinned (.plain (OpenSpec.upto topPolicySpec)) topPolicyUptoCard

/-- THE SECOND FORM's CARD OF 'signatorylaw19.SyntaxPrintSpec'. -/
def syntaxPrintSpecUptoCard : Claim7 := { stood := { row := syntaxPrintSpecUptoRow, standIns := [], harness := (true, "6dfbc9ab955ebfe709820a3f39b9f3e8b45f2ec5d23a756b48fd12bbbea2d69f"), looks := true }, kinds := [], alts := [], laidByText := true, laidKinds := [.data, .data, .data, .sentinel, .sentinel], laidTests := true, laidLooks := .later }
def SyntaxPrintSpecUptoCardSaid : Prop := Claim7.holds Tryz.pinned (.plain (OpenSpec.upto syntaxPrintSpecSpec)) syntaxPrintSpecUptoCard

/-- THE SECOND FORM's CARD OF 'signatorylaw19.SyntaxBack'. -/
def syntaxBackUptoCard : Claim7 := { stood := { row := syntaxBackUptoRow, standIns := [], harness := (true, "6dfbc9ab955ebfe709820a3f39b9f3e8b45f2ec5d23a756b48fd12bbbea2d69f"), looks := true }, kinds := [], alts := [], laidByText := true, laidKinds := [.data, .data, .data, .sentinel, .sentinel], laidTests := true, laidLooks := .later }
def SyntaxBackUptoCardSaid : Prop := Claim7.holds Tryz.pinned (.plain (OpenSpec.upto syntaxBackSpec)) syntaxBackUptoCard

/-- THE SECOND FORM's CARD OF 'signatorylaw19.SyntaxSpaces'. -/
def syntaxSpacesUptoCard : Claim7 := { stood := { row := syntaxSpacesUptoRow, standIns := [], harness := (true, "6dfbc9ab955ebfe709820a3f39b9f3e8b45f2ec5d23a756b48fd12bbbea2d69f"), looks := true }, kinds := [], alts := [], laidByText := true, laidKinds := [.data, .data, .data, .sentinel, .sentinel], laidTests := true, laidLooks := .later }
def SyntaxSpacesUptoCardSaid : Prop := Claim7.holds Tryz.pinned (.plain (OpenSpec.upto syntaxSpacesSpec)) syntaxSpacesUptoCard

/-- THE SECOND FORM's CARD OF 'signatorylaw19.SyntaxChange'. -/
def syntaxChangeUptoCard : Claim7 := { stood := { row := syntaxChangeUptoRow, standIns := [], harness := (true, "6dfbc9ab955ebfe709820a3f39b9f3e8b45f2ec5d23a756b48fd12bbbea2d69f"), looks := true }, kinds := [], alts := [], laidByText := true, laidKinds := [.data, .data, .data, .sentinel, .sentinel], laidTests := true, laidLooks := .later }
def SyntaxChangeUptoCardSaid : Prop := Claim7.holds Tryz.pinned (.plain (OpenSpec.upto syntaxChangeSpec)) syntaxChangeUptoCard

/-- THE SECOND FORM's CARD OF 'signatorylaw19.SyntaxCut'. -/
def syntaxCutUptoCard : Claim7 := { stood := { row := syntaxCutUptoRow, standIns := [], harness := (true, "6dfbc9ab955ebfe709820a3f39b9f3e8b45f2ec5d23a756b48fd12bbbea2d69f"), looks := true }, kinds := [], alts := [], laidByText := true, laidKinds := [.data, .data, .data, .sentinel, .sentinel], laidTests := true, laidLooks := .later }
def SyntaxCutUptoCardSaid : Prop := Claim7.holds Tryz.pinned (.plain (OpenSpec.upto syntaxCutSpec)) syntaxCutUptoCard

/-- THE SECOND FORM's CARD OF 'signatorylaw19.SyntaxInside'. -/
def syntaxInsideUptoCard : Claim7 := { stood := { row := syntaxInsideUptoRow, standIns := [], harness := (true, "6dfbc9ab955ebfe709820a3f39b9f3e8b45f2ec5d23a756b48fd12bbbea2d69f"), looks := true }, kinds := [], alts := [], laidByText := true, laidKinds := [.data, .data, .data, .sentinel, .sentinel], laidTests := true, laidLooks := .later }
def SyntaxInsideUptoCardSaid : Prop := Claim7.holds Tryz.pinned (.plain (OpenSpec.upto syntaxInsideSpec)) syntaxInsideUptoCard

/-- THE SECOND FORM's CARD OF 'signatorylaw20.PoliciesPrinted'. -/
def policiesPrintedUptoCard : Claim7 := { stood := { row := policiesPrintedUptoRow, standIns := [], harness := (true, "6dfbc9ab955ebfe709820a3f39b9f3e8b45f2ec5d23a756b48fd12bbbea2d69f"), looks := true }, kinds := [], alts := [], laidByText := true, laidKinds := [.data, .data, .data, .sentinel, .sentinel, .funcs], laidTests := true, laidLooks := .later }
def PoliciesPrintedUptoCardSaid : Prop := Claim7.holds Tryz.pinned (.plain (OpenSpec.upto policiesPrintedSpec)) policiesPrintedUptoCard
end Rows
end Go.Proofs.YtghmjnbpkobooaaGreatDoor
