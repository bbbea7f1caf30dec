/-
  DERIVED. GIVEN WITH THE SEED: THE CARDS: each row of YtppojbafagneeaaDoorRows.lean that lists a variable, with what it lists TIED to the program's text (the seventh form; the later family's looks); each row that meets fmt, with fmt's text TOLD by the authors' own Lean function (tested against real Go, not proved from fmt's source: count such statements apart). THE CARD IS WHAT COUNTS. Prove the row's statement (the work); the ties are given (YtppojbafagneeaaDoorTie.lean); close each card by the builder's one call (the guide's Derived/Test/ToyasCard.lean, 'card_holds'). Laid BY PROGRAM, IN A SANDBOX (cutbox-door.mjs). By AI agents, Wed Nov 11 2026. No macro, syntax, notation, axiom, sorry.
-/
import Derived.Test.YtppojbafagneeaaDoorRows
import GoSem.ClaimSeven
namespace Go.Proofs.YtppojbafagneeaaDoor
namespace Rows

/-- THE TIED CARD OF 'payofflaw05.TableAgrees'. -/
def tableAgreesCard : Claim7 := { stood := { row := tableAgreesRow, standIns := [], harness := (true, "2a804dfd918410774587f623de533c53aea4ec0b9e5ff67019fab38d980a9ef9"), looks := true }, kinds := [], alts := [], laidByText := true, laidKinds := [.data], laidTests := true, laidLooks := .later }
def TableAgreesCardSaid : Prop := Claim7.holds Tryd.pinned (.plain (OpenSpec.ofChange tableAgreesSpec)) tableAgreesCard

/-- THE TIED CARD OF 'payofflaw05.TableValid'. -/
def tableValidCard : Claim7 := { stood := { row := tableValidRow, standIns := [], harness := (true, "2a804dfd918410774587f623de533c53aea4ec0b9e5ff67019fab38d980a9ef9"), looks := true }, kinds := [], alts := [], laidByText := true, laidKinds := [.data], laidTests := true, laidLooks := .later }
def TableValidCardSaid : Prop := Claim7.holds Tryd.pinned (.plain (OpenSpec.ofChange tableValidSpec)) tableValidCard

/-- THE TIED CARD OF 'payofflaw05.TableBinds'. -/
def tableBindsCard : Claim7 := { stood := { row := tableBindsRow, standIns := [], harness := (true, "2a804dfd918410774587f623de533c53aea4ec0b9e5ff67019fab38d980a9ef9"), looks := true }, kinds := [], alts := [], laidByText := true, laidKinds := [.data, .data], laidTests := true, laidLooks := .later }
def TableBindsCardSaid : Prop := Claim7.holds Tryd.pinned (.plain (OpenSpec.ofChange tableBindsSpec)) tableBindsCard

/-- THE TIED CARD OF 'payofflaw05.TableLays'. -/
def tableLaysCard : Claim7 := { stood := { row := tableLaysRow, standIns := [], harness := (true, "2a804dfd918410774587f623de533c53aea4ec0b9e5ff67019fab38d980a9ef9"), looks := true }, kinds := [], alts := [], laidByText := true, laidKinds := [.data, .data], laidTests := true, laidLooks := .later }
def TableLaysCardSaid : Prop := Claim7.holds Tryd.pinned (.plain (OpenSpec.ofChange tableLaysSpec)) tableLaysCard

/-- THE TIED CARD OF 'payofflaw05.TableAsks'. -/
def tableAsksCard : Claim7 := { stood := { row := tableAsksRow, standIns := [], harness := (true, "2a804dfd918410774587f623de533c53aea4ec0b9e5ff67019fab38d980a9ef9"), looks := true }, kinds := [], alts := [], laidByText := true, laidKinds := [.data, .data], laidTests := true, laidLooks := .later }
def TableAsksCardSaid : Prop := Claim7.holds Tryd.pinned (.plain (OpenSpec.ofChange tableAsksSpec)) tableAsksCard

/-- THE TIED CARD OF 'payofflaw05.TableWrites'. -/
def tableWritesCard : Claim7 := { stood := { row := tableWritesRow, standIns := [], harness := (true, "2a804dfd918410774587f623de533c53aea4ec0b9e5ff67019fab38d980a9ef9"), looks := true }, kinds := [], alts := [], laidByText := true, laidKinds := [.data, .data, .data, .data], laidTests := true, laidLooks := .later }
def TableWritesCardSaid : Prop := Claim7.holds Tryd.pinned (.plain (OpenSpec.ofChange tableWritesSpec)) tableWritesCard

/-- THE TIED CARD OF 'payofflaw05.TableReads'. -/
def tableReadsCard : Claim7 := { stood := { row := tableReadsRow, standIns := [], harness := (true, "2a804dfd918410774587f623de533c53aea4ec0b9e5ff67019fab38d980a9ef9"), looks := true }, kinds := [], alts := [], laidByText := true, laidKinds := [.data, .data, .data, .data, .sentinel, .sentinel, .data, .pinned], laidTests := true, laidLooks := .later }
def TableReadsCardSaid : Prop := Claim7.holds Tryd.pinned (.plain (OpenSpec.ofChange tableReadsSpec)) tableReadsCard

/-- THE TIED CARD OF 'payofflaw05.TableBack'. -/
def tableBackCard : Claim7 := { stood := { row := tableBackRow, standIns := [], harness := (true, "2a804dfd918410774587f623de533c53aea4ec0b9e5ff67019fab38d980a9ef9"), looks := true }, kinds := [], alts := [], laidByText := true, laidKinds := [.data, .data, .data, .data, .sentinel, .sentinel, .data, .pinned], laidTests := true, laidLooks := .later }
def TableBackCardSaid : Prop := Claim7.holds Tryd.pinned (.plain (OpenSpec.ofChange tableBackSpec)) tableBackCard

/-- THE TIED CARD OF 'payofflaw05.TableRead'. -/
def tableReadCard : Claim7 := { stood := { row := tableReadRow, standIns := [], harness := (true, "2a804dfd918410774587f623de533c53aea4ec0b9e5ff67019fab38d980a9ef9"), looks := true }, kinds := [], alts := [], laidByText := true, laidKinds := [.data, .data, .data, .data, .sentinel, .sentinel, .data, .pinned], laidTests := true, laidLooks := .later }
def TableReadCardSaid : Prop := Claim7.holds Tryd.pinned (.plain (OpenSpec.ofChange tableReadSpec)) tableReadCard

/-- THE TIED CARD OF 'payofflaw05.TableFirst'. -/
def tableFirstCard : Claim7 := { stood := { row := tableFirstRow, standIns := [], harness := (true, "2a804dfd918410774587f623de533c53aea4ec0b9e5ff67019fab38d980a9ef9"), looks := true }, kinds := [], alts := [], laidByText := true, laidKinds := [.data, .data, .data, .data, .sentinel, .sentinel, .data, .pinned], laidTests := true, laidLooks := .later }
def TableFirstCardSaid : Prop := Claim7.holds Tryd.pinned (.plain (OpenSpec.ofChange tableFirstSpec)) tableFirstCard

/-- THE TIED CARD OF 'payofflaw05.TableNumbers'. -/
def tableNumbersCard : Claim7 := { stood := { row := tableNumbersRow, standIns := [], harness := (true, "2a804dfd918410774587f623de533c53aea4ec0b9e5ff67019fab38d980a9ef9"), looks := true }, kinds := [], alts := [], laidByText := true, laidKinds := [.data, .data, .data, .data, .sentinel, .sentinel, .pinned], laidTests := true, laidLooks := .later }
def TableNumbersCardSaid : Prop := Claim7.holds Tryd.pinned (.plain (OpenSpec.ofChange tableNumbersSpec)) tableNumbersCard

/-- THE TIED CARD OF 'payofflaw05.TableLike'. -/
def tableLikeCard : Claim7 := { stood := { row := tableLikeRow, standIns := [], harness := (true, "2a804dfd918410774587f623de533c53aea4ec0b9e5ff67019fab38d980a9ef9"), looks := true }, kinds := [], alts := [], laidByText := true, laidKinds := [.data, .data, .data, .data, .sentinel, .sentinel, .data, .pinned], laidTests := true, laidLooks := .later }
def TableLikeCardSaid : Prop := Claim7.holds Tryd.pinned (.plain (OpenSpec.ofChange tableLikeSpec)) tableLikeCard

/-- THE TIED CARD OF 'payofflaw05.TableSays'. -/
def tableSaysCard : Claim7 := { stood := { row := tableSaysRow, standIns := [], harness := (true, "2a804dfd918410774587f623de533c53aea4ec0b9e5ff67019fab38d980a9ef9"), looks := true }, kinds := [], alts := [], laidByText := true, laidKinds := [.data, .data, .data, .data, .sentinel, .sentinel, .data, .pinned], laidTests := true, laidLooks := .later }
def TableSaysCardSaid : Prop := Claim7.holds Tryd.pinned (.plain (OpenSpec.ofChange tableSaysSpec)) tableSaysCard

/-- THE SECOND FORM's CARD OF 'payofflaw05.TableAgrees'. -/
def tableAgreesUptoCard : Claim7 := { stood := { row := tableAgreesUptoRow, standIns := [], harness := (true, "2a804dfd918410774587f623de533c53aea4ec0b9e5ff67019fab38d980a9ef9"), looks := true }, kinds := [], alts := [], laidByText := true, laidKinds := [.data], laidTests := true, laidLooks := .later }
def TableAgreesUptoCardSaid : Prop := Claim7.holds Tryd.pinned (.plain (OpenSpec.upto tableAgreesSpec)) tableAgreesUptoCard

/-- THE SECOND FORM's CARD OF 'payofflaw05.TableValid'. -/
def tableValidUptoCard : Claim7 := { stood := { row := tableValidUptoRow, standIns := [], harness := (true, "2a804dfd918410774587f623de533c53aea4ec0b9e5ff67019fab38d980a9ef9"), looks := true }, kinds := [], alts := [], laidByText := true, laidKinds := [.data], laidTests := true, laidLooks := .later }
def TableValidUptoCardSaid : Prop := Claim7.holds Tryd.pinned (.plain (OpenSpec.upto tableValidSpec)) tableValidUptoCard

/-- THE SECOND FORM's CARD OF 'payofflaw05.TableBinds'. -/
def tableBindsUptoCard : Claim7 := { stood := { row := tableBindsUptoRow, standIns := [], harness := (true, "2a804dfd918410774587f623de533c53aea4ec0b9e5ff67019fab38d980a9ef9"), looks := true }, kinds := [], alts := [], laidByText := true, laidKinds := [.data, .data], laidTests := true, laidLooks := .later }
def TableBindsUptoCardSaid : Prop := Claim7.holds Tryd.pinned (.plain (OpenSpec.upto tableBindsSpec)) tableBindsUptoCard

/-- THE SECOND FORM's CARD OF 'payofflaw05.TableLays'. -/
def tableLaysUptoCard : Claim7 := { stood := { row := tableLaysUptoRow, standIns := [], harness := (true, "2a804dfd918410774587f623de533c53aea4ec0b9e5ff67019fab38d980a9ef9"), looks := true }, kinds := [], alts := [], laidByText := true, laidKinds := [.data, .data], laidTests := true, laidLooks := .later }
def TableLaysUptoCardSaid : Prop := Claim7.holds Tryd.pinned (.plain (OpenSpec.upto tableLaysSpec)) tableLaysUptoCard

/-- THE SECOND FORM's CARD OF 'payofflaw05.TableAsks'. -/
def tableAsksUptoCard : Claim7 := { stood := { row := tableAsksUptoRow, standIns := [], harness := (true, "2a804dfd918410774587f623de533c53aea4ec0b9e5ff67019fab38d980a9ef9"), looks := true }, kinds := [], alts := [], laidByText := true, laidKinds := [.data, .data], laidTests := true, laidLooks := .later }
def TableAsksUptoCardSaid : Prop := Claim7.holds Tryd.pinned (.plain (OpenSpec.upto tableAsksSpec)) tableAsksUptoCard

/-- THE SECOND FORM's CARD OF 'payofflaw05.TableWrites'. -/
def tableWritesUptoCard : Claim7 := { stood := { row := tableWritesUptoRow, standIns := [], harness := (true, "2a804dfd918410774587f623de533c53aea4ec0b9e5ff67019fab38d980a9ef9"), looks := true }, kinds := [], alts := [], laidByText := true, laidKinds := [.data, .data, .data, .data], laidTests := true, laidLooks := .later }
def TableWritesUptoCardSaid : Prop := Claim7.holds Tryd.pinned (.plain (OpenSpec.upto tableWritesSpec)) tableWritesUptoCard

/-- THE SECOND FORM's CARD OF 'payofflaw05.TableReads'. -/
def tableReadsUptoCard : Claim7 := { stood := { row := tableReadsUptoRow, standIns := [], harness := (true, "2a804dfd918410774587f623de533c53aea4ec0b9e5ff67019fab38d980a9ef9"), looks := true }, kinds := [], alts := [], laidByText := true, laidKinds := [.data, .data, .data, .data, .sentinel, .sentinel, .data, .pinned], laidTests := true, laidLooks := .later }
def TableReadsUptoCardSaid : Prop := Claim7.holds Tryd.pinned (.plain (OpenSpec.upto tableReadsSpec)) tableReadsUptoCard

/-- THE SECOND FORM's CARD OF 'payofflaw05.TableBack'. -/
def tableBackUptoCard : Claim7 := { stood := { row := tableBackUptoRow, standIns := [], harness := (true, "2a804dfd918410774587f623de533c53aea4ec0b9e5ff67019fab38d980a9ef9"), looks := true }, kinds := [], alts := [], laidByText := true, laidKinds := [.data, .data, .data, .data, .sentinel, .sentinel, .data, .pinned], laidTests := true, laidLooks := .later }
def TableBackUptoCardSaid : Prop := Claim7.holds Tryd.pinned (.plain (OpenSpec.upto tableBackSpec)) tableBackUptoCard

/-- THE SECOND FORM's CARD OF 'payofflaw05.TableRead'. -/
def tableReadUptoCard : Claim7 := { stood := { row := tableReadUptoRow, standIns := [], harness := (true, "2a804dfd918410774587f623de533c53aea4ec0b9e5ff67019fab38d980a9ef9"), looks := true }, kinds := [], alts := [], laidByText := true, laidKinds := [.data, .data, .data, .data, .sentinel, .sentinel, .data, .pinned], laidTests := true, laidLooks := .later }
def TableReadUptoCardSaid : Prop := Claim7.holds Tryd.pinned (.plain (OpenSpec.upto tableReadSpec)) tableReadUptoCard

/-- THE SECOND FORM's CARD OF 'payofflaw05.TableFirst'. -/
def tableFirstUptoCard : Claim7 := { stood := { row := tableFirstUptoRow, standIns := [], harness := (true, "2a804dfd918410774587f623de533c53aea4ec0b9e5ff67019fab38d980a9ef9"), looks := true }, kinds := [], alts := [], laidByText := true, laidKinds := [.data, .data, .data, .data, .sentinel, .sentinel, .data, .pinned], laidTests := true, laidLooks := .later }
def TableFirstUptoCardSaid : Prop := Claim7.holds Tryd.pinned (.plain (OpenSpec.upto tableFirstSpec)) tableFirstUptoCard

/-- THE SECOND FORM's CARD OF 'payofflaw05.TableNumbers'. -/
def tableNumbersUptoCard : Claim7 := { stood := { row := tableNumbersUptoRow, standIns := [], harness := (true, "2a804dfd918410774587f623de533c53aea4ec0b9e5ff67019fab38d980a9ef9"), looks := true }, kinds := [], alts := [], laidByText := true, laidKinds := [.data, .data, .data, .data, .sentinel, .sentinel, .pinned], laidTests := true, laidLooks := .later }
def TableNumbersUptoCardSaid : Prop := Claim7.holds Tryd.pinned (.plain (OpenSpec.upto tableNumbersSpec)) tableNumbersUptoCard

/-- THE SECOND FORM's CARD OF 'payofflaw05.TableLike'. -/
def tableLikeUptoCard : Claim7 := { stood := { row := tableLikeUptoRow, standIns := [], harness := (true, "2a804dfd918410774587f623de533c53aea4ec0b9e5ff67019fab38d980a9ef9"), looks := true }, kinds := [], alts := [], laidByText := true, laidKinds := [.data, .data, .data, .data, .sentinel, .sentinel, .data, .pinned], laidTests := true, laidLooks := .later }
def TableLikeUptoCardSaid : Prop := Claim7.holds Tryd.pinned (.plain (OpenSpec.upto tableLikeSpec)) tableLikeUptoCard

/-- THE SECOND FORM's CARD OF 'payofflaw05.TableSays'. -/
def tableSaysUptoCard : Claim7 := { stood := { row := tableSaysUptoRow, standIns := [], harness := (true, "2a804dfd918410774587f623de533c53aea4ec0b9e5ff67019fab38d980a9ef9"), looks := true }, kinds := [], alts := [], laidByText := true, laidKinds := [.data, .data, .data, .data, .sentinel, .sentinel, .data, .pinned], laidTests := true, laidLooks := .later }
def TableSaysUptoCardSaid : Prop := Claim7.holds Tryd.pinned (.plain (OpenSpec.upto tableSaysSpec)) tableSaysUptoCard
end Rows
end Go.Proofs.YtppojbafagneeaaDoor
