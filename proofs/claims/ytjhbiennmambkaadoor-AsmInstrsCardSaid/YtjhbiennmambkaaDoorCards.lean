/-
  DERIVED. GIVEN WITH THE SEED: THE CARDS: each row of YtjhbiennmambkaaDoorRows.lean that lists a variable, with what it lists TIED to the program's text (the seventh form; the later family's looks); each row that meets fmt, with fmt's text TOLD by the authors' own Lean function (tested against real Go, not proved from fmt's source: count such statements apart). THE CARD IS WHAT COUNTS. Prove the row's statement (the work); the ties are given (YtjhbiennmambkaaDoorTie.lean); close each card by the builder's one call (the guide's Derived/Test/ToyasCard.lean, 'card_holds'). Laid BY PROGRAM, IN A SANDBOX (cutbox-door.mjs). By AI agents, Wed Nov 11 2026. No macro, syntax, notation, axiom, sorry.
-/
import Derived.Test.YtjhbiennmambkaaDoorRows
import GoSem.ClaimSeven
namespace Go.Proofs.YtjhbiennmambkaaDoor
namespace Rows

/-- THE TIED CARD OF 'payofflaw13.AsmInstrs'. -/
def asmInstrsCard : Claim7 := { stood := { row := asmInstrsRow, standIns := [], harness := (true, "2f503a7589e436ec4ac91f6fbd5115a279c38454388875dc999c02ecae8bd211"), looks := false }, kinds := [], alts := [], laidByText := true, laidKinds := [.data, .data, .data, .data, .data, .data, .data], laidTests := true, laidLooks := .later }
def AsmInstrsCardSaid : Prop := Claim7.holds Tryd.pinned (.plain (OpenSpec.ofChange asmInstrsSpec)) asmInstrsCard

/-- THE TIED CARD OF 'payofflaw13.AsmPrints'. -/
def asmPrintsCard : Claim7 := { stood := { row := asmPrintsRow, standIns := [], harness := (true, "2f503a7589e436ec4ac91f6fbd5115a279c38454388875dc999c02ecae8bd211"), looks := false }, kinds := [], alts := [], laidByText := true, laidKinds := [.data, .data, .data, .data, .data, .data, .data], laidTests := true, laidLooks := .later }
def AsmPrintsCardSaid : Prop := Claim7.holds Tryd.pinned (.plain (OpenSpec.ofChange asmPrintsSpec)) asmPrintsCard

/-- THE SECOND FORM's CARD OF 'payofflaw13.AsmInstrs'. -/
def asmInstrsUptoCard : Claim7 := { stood := { row := asmInstrsUptoRow, standIns := [], harness := (true, "2f503a7589e436ec4ac91f6fbd5115a279c38454388875dc999c02ecae8bd211"), looks := false }, kinds := [], alts := [], laidByText := true, laidKinds := [.data, .data, .data, .data, .data, .data, .data], laidTests := true, laidLooks := .later }
def AsmInstrsUptoCardSaid : Prop := Claim7.holds Tryd.pinned (.plain (OpenSpec.upto asmInstrsSpec)) asmInstrsUptoCard

/-- THE SECOND FORM's CARD OF 'payofflaw13.AsmPrints'. -/
def asmPrintsUptoCard : Claim7 := { stood := { row := asmPrintsUptoRow, standIns := [], harness := (true, "2f503a7589e436ec4ac91f6fbd5115a279c38454388875dc999c02ecae8bd211"), looks := false }, kinds := [], alts := [], laidByText := true, laidKinds := [.data, .data, .data, .data, .data, .data, .data], laidTests := true, laidLooks := .later }
def AsmPrintsUptoCardSaid : Prop := Claim7.holds Tryd.pinned (.plain (OpenSpec.upto asmPrintsSpec)) asmPrintsUptoCard
end Rows
end Go.Proofs.YtjhbiennmambkaaDoor
