/-
  DERIVED. GIVEN WITH THE SEED: THE CARDS: each row of YtknlcpojglhbnaaDoorRows.lean that lists a variable, with what it lists TIED to the program's text (the seventh form; the later family's looks); each row that meets fmt, with fmt's text TOLD by the authors' own Lean function (tested against real Go, not proved from fmt's source: count such statements apart). THE CARD IS WHAT COUNTS. Prove the row's statement (the work); the ties are given (YtknlcpojglhbnaaDoorTie.lean); close each card by the builder's one call (the guide's Derived/Test/ToyasCard.lean, 'card_holds'). Laid BY PROGRAM, IN A SANDBOX (cutbox-door.mjs). By AI agents, Wed Nov 11 2026. No macro, syntax, notation, axiom, sorry.
-/
import Derived.Test.YtknlcpojglhbnaaDoorRows
import GoSem.ClaimSeven
namespace Go.Proofs.YtknlcpojglhbnaaDoor
namespace Rows

/-- THE TIED CARD OF 'payofflaw11.CodeFinds'. -/
def codeFindsCard : Claim7 := { stood := { row := codeFindsRow, standIns := [], harness := (true, "4090f884a3e4783dc8faa4f337d4b8bc8103f96fc5ab9e0f508999b133f90c97"), looks := false }, kinds := [], alts := [], laidByText := true, laidKinds := [.data, .data], laidTests := true, laidLooks := .later }
def CodeFindsCardSaid : Prop := Claim7.holds Tryd.pinned (.plain (OpenSpec.ofChange codeFindsSpec)) codeFindsCard

/-- THE TIED CARD OF 'payofflaw11.CodeValids'. -/
def codeValidsCard : Claim7 := { stood := { row := codeValidsRow, standIns := [], harness := (true, "4090f884a3e4783dc8faa4f337d4b8bc8103f96fc5ab9e0f508999b133f90c97"), looks := false }, kinds := [], alts := [], laidByText := true, laidKinds := [.data, .data], laidTests := true, laidLooks := .later }
def CodeValidsCardSaid : Prop := Claim7.holds Tryd.pinned (.plain (OpenSpec.ofChange codeValidsSpec)) codeValidsCard

/-- THE TIED CARD OF 'payofflaw11.CodeTable'. -/
def codeTableCard : Claim7 := { stood := { row := codeTableRow, standIns := [], harness := (true, "4090f884a3e4783dc8faa4f337d4b8bc8103f96fc5ab9e0f508999b133f90c97"), looks := false }, kinds := [], alts := [], laidByText := true, laidKinds := [.data, .data], laidTests := true, laidLooks := .later }
def CodeTableCardSaid : Prop := Claim7.holds Tryd.pinned (.plain (OpenSpec.ofChange codeTableSpec)) codeTableCard

/-- THE TIED CARD OF 'payofflaw11.CodeNames'. -/
def codeNamesCard : Claim7 := { stood := { row := codeNamesRow, standIns := [], harness := (true, "4090f884a3e4783dc8faa4f337d4b8bc8103f96fc5ab9e0f508999b133f90c97"), looks := false }, kinds := [], alts := [], laidByText := true, laidKinds := [.data], laidTests := true, laidLooks := .later }
def CodeNamesCardSaid : Prop := Claim7.holds Tryd.pinned (.plain (OpenSpec.ofChange codeNamesSpec)) codeNamesCard

/-- THE TIED CARD OF 'payofflaw11.CodeEncodes'. -/
def codeEncodesCard : Claim7 := { stood := { row := codeEncodesRow, standIns := [], harness := (true, "4090f884a3e4783dc8faa4f337d4b8bc8103f96fc5ab9e0f508999b133f90c97"), looks := false }, kinds := [], alts := [], laidByText := true, laidKinds := [.data, .data], laidTests := true, laidLooks := .later }
def CodeEncodesCardSaid : Prop := Claim7.holds Tryd.pinned (.plain (OpenSpec.ofChange codeEncodesSpec)) codeEncodesCard

/-- THE TIED CARD OF 'payofflaw11.CodeParts'. -/
def codePartsCard : Claim7 := { stood := { row := codePartsRow, standIns := [], harness := (true, "4090f884a3e4783dc8faa4f337d4b8bc8103f96fc5ab9e0f508999b133f90c97"), looks := false }, kinds := [], alts := [], laidByText := true, laidKinds := [.data], laidTests := true, laidLooks := .later }
def CodePartsCardSaid : Prop := Claim7.holds Tryd.pinned (.plain (OpenSpec.ofChange codePartsSpec)) codePartsCard

/-- THE TIED CARD OF 'payofflaw11.CodeDecodes'. -/
def codeDecodesCard : Claim7 := { stood := { row := codeDecodesRow, standIns := [], harness := (true, "4090f884a3e4783dc8faa4f337d4b8bc8103f96fc5ab9e0f508999b133f90c97"), looks := false }, kinds := [], alts := [], laidByText := true, laidKinds := [.data, .data], laidTests := true, laidLooks := .later }
def CodeDecodesCardSaid : Prop := Claim7.holds Tryd.pinned (.plain (OpenSpec.ofChange codeDecodesSpec)) codeDecodesCard

/-- THE TIED CARD OF 'payofflaw11.CodeBack'. -/
def codeBackCard : Claim7 := { stood := { row := codeBackRow, standIns := [], harness := (true, "4090f884a3e4783dc8faa4f337d4b8bc8103f96fc5ab9e0f508999b133f90c97"), looks := false }, kinds := [], alts := [], laidByText := true, laidKinds := [.data], laidTests := true, laidLooks := .later }
def CodeBackCardSaid : Prop := Claim7.holds Tryd.pinned (.plain (OpenSpec.ofChange codeBackSpec)) codeBackCard

/-- THE TIED CARD OF 'payofflaw11.CodeOnly'. -/
def codeOnlyCard : Claim7 := { stood := { row := codeOnlyRow, standIns := [], harness := (true, "4090f884a3e4783dc8faa4f337d4b8bc8103f96fc5ab9e0f508999b133f90c97"), looks := false }, kinds := [], alts := [], laidByText := true, laidKinds := [.data], laidTests := true, laidLooks := .later }
def CodeOnlyCardSaid : Prop := Claim7.holds Tryd.pinned (.plain (OpenSpec.ofChange codeOnlySpec)) codeOnlyCard

/-- THE TIED CARD OF 'payofflaw11.CodeCut'. -/
def codeCutCard : Claim7 := { stood := { row := codeCutRow, standIns := [], harness := (true, "4090f884a3e4783dc8faa4f337d4b8bc8103f96fc5ab9e0f508999b133f90c97"), looks := false }, kinds := [], alts := [], laidByText := true, laidKinds := [.data], laidTests := true, laidLooks := .later }
def CodeCutCardSaid : Prop := Claim7.holds Tryd.pinned (.plain (OpenSpec.ofChange codeCutSpec)) codeCutCard

/-- THE TIED CARD OF 'payofflaw11.CodeOdd'. -/
def codeOddCard : Claim7 := { stood := { row := codeOddRow, standIns := [], harness := (true, "4090f884a3e4783dc8faa4f337d4b8bc8103f96fc5ab9e0f508999b133f90c97"), looks := false }, kinds := [], alts := [], laidByText := true, laidKinds := [.data], laidTests := true, laidLooks := .later }
def CodeOddCardSaid : Prop := Claim7.holds Tryd.pinned (.plain (OpenSpec.ofChange codeOddSpec)) codeOddCard

/-- THE SECOND FORM's CARD OF 'payofflaw11.CodeFinds'. -/
def codeFindsUptoCard : Claim7 := { stood := { row := codeFindsUptoRow, standIns := [], harness := (true, "4090f884a3e4783dc8faa4f337d4b8bc8103f96fc5ab9e0f508999b133f90c97"), looks := false }, kinds := [], alts := [], laidByText := true, laidKinds := [.data, .data], laidTests := true, laidLooks := .later }
def CodeFindsUptoCardSaid : Prop := Claim7.holds Tryd.pinned (.plain (OpenSpec.upto codeFindsSpec)) codeFindsUptoCard

/-- THE SECOND FORM's CARD OF 'payofflaw11.CodeValids'. -/
def codeValidsUptoCard : Claim7 := { stood := { row := codeValidsUptoRow, standIns := [], harness := (true, "4090f884a3e4783dc8faa4f337d4b8bc8103f96fc5ab9e0f508999b133f90c97"), looks := false }, kinds := [], alts := [], laidByText := true, laidKinds := [.data, .data], laidTests := true, laidLooks := .later }
def CodeValidsUptoCardSaid : Prop := Claim7.holds Tryd.pinned (.plain (OpenSpec.upto codeValidsSpec)) codeValidsUptoCard

/-- THE SECOND FORM's CARD OF 'payofflaw11.CodeTable'. -/
def codeTableUptoCard : Claim7 := { stood := { row := codeTableUptoRow, standIns := [], harness := (true, "4090f884a3e4783dc8faa4f337d4b8bc8103f96fc5ab9e0f508999b133f90c97"), looks := false }, kinds := [], alts := [], laidByText := true, laidKinds := [.data, .data], laidTests := true, laidLooks := .later }
def CodeTableUptoCardSaid : Prop := Claim7.holds Tryd.pinned (.plain (OpenSpec.upto codeTableSpec)) codeTableUptoCard

/-- THE SECOND FORM's CARD OF 'payofflaw11.CodeNames'. -/
def codeNamesUptoCard : Claim7 := { stood := { row := codeNamesUptoRow, standIns := [], harness := (true, "4090f884a3e4783dc8faa4f337d4b8bc8103f96fc5ab9e0f508999b133f90c97"), looks := false }, kinds := [], alts := [], laidByText := true, laidKinds := [.data], laidTests := true, laidLooks := .later }
def CodeNamesUptoCardSaid : Prop := Claim7.holds Tryd.pinned (.plain (OpenSpec.upto codeNamesSpec)) codeNamesUptoCard

/-- THE SECOND FORM's CARD OF 'payofflaw11.CodeEncodes'. -/
def codeEncodesUptoCard : Claim7 := { stood := { row := codeEncodesUptoRow, standIns := [], harness := (true, "4090f884a3e4783dc8faa4f337d4b8bc8103f96fc5ab9e0f508999b133f90c97"), looks := false }, kinds := [], alts := [], laidByText := true, laidKinds := [.data, .data], laidTests := true, laidLooks := .later }
def CodeEncodesUptoCardSaid : Prop := Claim7.holds Tryd.pinned (.plain (OpenSpec.upto codeEncodesSpec)) codeEncodesUptoCard

/-- THE SECOND FORM's CARD OF 'payofflaw11.CodeParts'. -/
def codePartsUptoCard : Claim7 := { stood := { row := codePartsUptoRow, standIns := [], harness := (true, "4090f884a3e4783dc8faa4f337d4b8bc8103f96fc5ab9e0f508999b133f90c97"), looks := false }, kinds := [], alts := [], laidByText := true, laidKinds := [.data], laidTests := true, laidLooks := .later }
def CodePartsUptoCardSaid : Prop := Claim7.holds Tryd.pinned (.plain (OpenSpec.upto codePartsSpec)) codePartsUptoCard

/-- THE SECOND FORM's CARD OF 'payofflaw11.CodeDecodes'. -/
def codeDecodesUptoCard : Claim7 := { stood := { row := codeDecodesUptoRow, standIns := [], harness := (true, "4090f884a3e4783dc8faa4f337d4b8bc8103f96fc5ab9e0f508999b133f90c97"), looks := false }, kinds := [], alts := [], laidByText := true, laidKinds := [.data, .data], laidTests := true, laidLooks := .later }
def CodeDecodesUptoCardSaid : Prop := Claim7.holds Tryd.pinned (.plain (OpenSpec.upto codeDecodesSpec)) codeDecodesUptoCard

/-- THE SECOND FORM's CARD OF 'payofflaw11.CodeBack'. -/
def codeBackUptoCard : Claim7 := { stood := { row := codeBackUptoRow, standIns := [], harness := (true, "4090f884a3e4783dc8faa4f337d4b8bc8103f96fc5ab9e0f508999b133f90c97"), looks := false }, kinds := [], alts := [], laidByText := true, laidKinds := [.data], laidTests := true, laidLooks := .later }
def CodeBackUptoCardSaid : Prop := Claim7.holds Tryd.pinned (.plain (OpenSpec.upto codeBackSpec)) codeBackUptoCard

/-- THE SECOND FORM's CARD OF 'payofflaw11.CodeOnly'. -/
def codeOnlyUptoCard : Claim7 := { stood := { row := codeOnlyUptoRow, standIns := [], harness := (true, "4090f884a3e4783dc8faa4f337d4b8bc8103f96fc5ab9e0f508999b133f90c97"), looks := false }, kinds := [], alts := [], laidByText := true, laidKinds := [.data], laidTests := true, laidLooks := .later }
def CodeOnlyUptoCardSaid : Prop := Claim7.holds Tryd.pinned (.plain (OpenSpec.upto codeOnlySpec)) codeOnlyUptoCard

/-- THE SECOND FORM's CARD OF 'payofflaw11.CodeCut'. -/
def codeCutUptoCard : Claim7 := { stood := { row := codeCutUptoRow, standIns := [], harness := (true, "4090f884a3e4783dc8faa4f337d4b8bc8103f96fc5ab9e0f508999b133f90c97"), looks := false }, kinds := [], alts := [], laidByText := true, laidKinds := [.data], laidTests := true, laidLooks := .later }
def CodeCutUptoCardSaid : Prop := Claim7.holds Tryd.pinned (.plain (OpenSpec.upto codeCutSpec)) codeCutUptoCard

/-- THE SECOND FORM's CARD OF 'payofflaw11.CodeOdd'. -/
def codeOddUptoCard : Claim7 := { stood := { row := codeOddUptoRow, standIns := [], harness := (true, "4090f884a3e4783dc8faa4f337d4b8bc8103f96fc5ab9e0f508999b133f90c97"), looks := false }, kinds := [], alts := [], laidByText := true, laidKinds := [.data], laidTests := true, laidLooks := .later }
def CodeOddUptoCardSaid : Prop := Claim7.holds Tryd.pinned (.plain (OpenSpec.upto codeOddSpec)) codeOddUptoCard
end Rows
end Go.Proofs.YtknlcpojglhbnaaDoor
