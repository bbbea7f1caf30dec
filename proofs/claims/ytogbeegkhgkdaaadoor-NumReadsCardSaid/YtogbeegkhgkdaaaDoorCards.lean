/-
  DERIVED. GIVEN WITH THE SEED: THE CARDS: each row of YtogbeegkhgkdaaaDoorRows.lean that lists a variable, with what it lists TIED to the program's text (the seventh form; the later family's looks); each row that meets fmt, with fmt's text TOLD by the authors' own Lean function (tested against real Go, not proved from fmt's source: count such statements apart). THE CARD IS WHAT COUNTS. Prove the row's statement (the work); the ties are given (YtogbeegkhgkdaaaDoorTie.lean); close each card by the builder's one call (the guide's Derived/Test/ToyasCard.lean, 'card_holds'). Laid BY PROGRAM, IN A SANDBOX (cutbox-door.mjs). By AI agents, Wed Nov 11 2026. No macro, syntax, notation, axiom, sorry.
-/
import Derived.Test.YtogbeegkhgkdaaaDoorRows
import GoSem.ClaimSeven
namespace Go.Proofs.YtogbeegkhgkdaaaDoor
namespace Rows

/-- THE TIED CARD OF 'payofflaw01.NumTexts'. -/
def numTextsCard : Claim7 := { stood := { row := numTextsRow, standIns := [], harness := (true, "121ae6cabd772649367c580cf1af364d2050bbd91a917ca702cfdd3caf05465b"), looks := true }, kinds := [], alts := [], laidByText := true, laidKinds := [.data, .data, .data], laidTests := true, laidLooks := .later }
def NumTextsCardSaid : Prop := Claim7.holds Tryd.pinned (.plain (OpenSpec.ofChange numTextsSpec)) numTextsCard

/-- THE TIED CARD OF 'payofflaw01.NumReads'. -/
def numReadsCard : Claim7 := { stood := { row := numReadsRow, standIns := [], harness := (true, "121ae6cabd772649367c580cf1af364d2050bbd91a917ca702cfdd3caf05465b"), looks := true }, kinds := [], alts := [], laidByText := true, laidKinds := [.data, .data, .data, .data, .sentinel, .sentinel, .pinned], laidTests := true, laidLooks := .later }
def NumReadsCardSaid : Prop := Claim7.holds Tryd.pinned (.plain (OpenSpec.ofChange numReadsSpec)) numReadsCard

/-- THE TIED CARD OF 'payofflaw01.NumThere'. -/
def numThereCard : Claim7 := { stood := { row := numThereRow, standIns := [], harness := (true, "121ae6cabd772649367c580cf1af364d2050bbd91a917ca702cfdd3caf05465b"), looks := true }, kinds := [], alts := [], laidByText := true, laidKinds := [.data, .data, .data, .data, .sentinel, .sentinel, .pinned], laidTests := true, laidLooks := .later }
def NumThereCardSaid : Prop := Claim7.holds Tryd.pinned (.plain (OpenSpec.ofChange numThereSpec)) numThereCard

/-- THE SECOND FORM's CARD OF 'payofflaw01.NumTexts'. -/
def numTextsUptoCard : Claim7 := { stood := { row := numTextsUptoRow, standIns := [], harness := (true, "121ae6cabd772649367c580cf1af364d2050bbd91a917ca702cfdd3caf05465b"), looks := true }, kinds := [], alts := [], laidByText := true, laidKinds := [.data, .data, .data], laidTests := true, laidLooks := .later }
def NumTextsUptoCardSaid : Prop := Claim7.holds Tryd.pinned (.plain (OpenSpec.upto numTextsSpec)) numTextsUptoCard

/-- THE SECOND FORM's CARD OF 'payofflaw01.NumReads'. -/
def numReadsUptoCard : Claim7 := { stood := { row := numReadsUptoRow, standIns := [], harness := (true, "121ae6cabd772649367c580cf1af364d2050bbd91a917ca702cfdd3caf05465b"), looks := true }, kinds := [], alts := [], laidByText := true, laidKinds := [.data, .data, .data, .data, .sentinel, .sentinel, .pinned], laidTests := true, laidLooks := .later }
def NumReadsUptoCardSaid : Prop := Claim7.holds Tryd.pinned (.plain (OpenSpec.upto numReadsSpec)) numReadsUptoCard

/-- THE SECOND FORM's CARD OF 'payofflaw01.NumThere'. -/
def numThereUptoCard : Claim7 := { stood := { row := numThereUptoRow, standIns := [], harness := (true, "121ae6cabd772649367c580cf1af364d2050bbd91a917ca702cfdd3caf05465b"), looks := true }, kinds := [], alts := [], laidByText := true, laidKinds := [.data, .data, .data, .data, .sentinel, .sentinel, .pinned], laidTests := true, laidLooks := .later }
def NumThereUptoCardSaid : Prop := Claim7.holds Tryd.pinned (.plain (OpenSpec.upto numThereSpec)) numThereUptoCard
end Rows
end Go.Proofs.YtogbeegkhgkdaaaDoor
