/-
  DERIVED. GIVEN WITH THE SEED: THE CARDS: each row of YtjehicncbpljaaaDoorRows.lean that lists a variable, with what it lists TIED to the program's text (the seventh form; the later family's looks); each row that meets fmt, with fmt's text TOLD by the authors' own Lean function (tested against real Go, not proved from fmt's source: count such statements apart). THE CARD IS WHAT COUNTS. Prove the row's statement (the work); the ties are given (YtjehicncbpljaaaDoorTie.lean); close each card by the builder's one call (the guide's Derived/Test/ToyasCard.lean, 'card_holds'). Laid BY PROGRAM, IN A SANDBOX (cutbox-door.mjs). By AI agents, Wed Nov 11 2026. No macro, syntax, notation, axiom, sorry.
-/
import Derived.Test.YtjehicncbpljaaaDoorRows
import GoSem.ClaimSeven
namespace Go.Proofs.YtjehicncbpljaaaDoor
namespace Rows

/-- THE TIED CARD OF 'gouachelaw09.RecordsGet'. -/
def recordsGetCard : Claim7 := { stood := { row := recordsGetRow, standIns := [], harness := (true, "f4e39ec7ef2079839cd6fbb4deebf43a81b2cb0e610519870cbf60ab8afaa0d2"), looks := false }, kinds := [], alts := [], laidByText := true, laidKinds := [.data], laidTests := true, laidLooks := .later }
def RecordsGetCardSaid : Prop := Claim7.holds Tryd.pinned (.plain (OpenSpec.ofChange recordsGetSpec)) recordsGetCard

/-- THE TIED CARD OF 'gouachelaw09.RecordsPut'. -/
def recordsPutCard : Claim7 := { stood := { row := recordsPutRow, standIns := [], harness := (true, "f4e39ec7ef2079839cd6fbb4deebf43a81b2cb0e610519870cbf60ab8afaa0d2"), looks := false }, kinds := [], alts := [], laidByText := true, laidKinds := [.data], laidTests := true, laidLooks := .later }
def RecordsPutCardSaid : Prop := Claim7.holds Tryd.pinned (.plain (OpenSpec.ofChange recordsPutSpec)) recordsPutCard

/-- THE TIED CARD OF 'gouachelaw09.RecordsBack'. -/
def recordsBackCard : Claim7 := { stood := { row := recordsBackRow, standIns := [], harness := (true, "f4e39ec7ef2079839cd6fbb4deebf43a81b2cb0e610519870cbf60ab8afaa0d2"), looks := false }, kinds := [], alts := [], laidByText := true, laidKinds := [.data], laidTests := true, laidLooks := .later }
def RecordsBackCardSaid : Prop := Claim7.holds Tryd.pinned (.plain (OpenSpec.ofChange recordsBackSpec)) recordsBackCard

/-- THE TIED CARD OF 'gouachelaw09.RecordsAgain'. -/
def recordsAgainCard : Claim7 := { stood := { row := recordsAgainRow, standIns := [], harness := (true, "f4e39ec7ef2079839cd6fbb4deebf43a81b2cb0e610519870cbf60ab8afaa0d2"), looks := false }, kinds := [], alts := [], laidByText := true, laidKinds := [.data], laidTests := true, laidLooks := .later }
def RecordsAgainCardSaid : Prop := Claim7.holds Tryd.pinned (.plain (OpenSpec.ofChange recordsAgainSpec)) recordsAgainCard

/-- THE TIED CARD OF 'gouachelaw09.RecordsEach'. -/
def recordsEachCard : Claim7 := { stood := { row := recordsEachRow, standIns := [], harness := (true, "f4e39ec7ef2079839cd6fbb4deebf43a81b2cb0e610519870cbf60ab8afaa0d2"), looks := false }, kinds := [], alts := [], laidByText := true, laidKinds := [.data], laidTests := true, laidLooks := .later }
def RecordsEachCardSaid : Prop := Claim7.holds Tryd.pinned (.plain (OpenSpec.ofChange recordsEachSpec)) recordsEachCard

/-- THE TIED CARD OF 'gouachelaw09.RecordsRoom'. -/
def recordsRoomCard : Claim7 := { stood := { row := recordsRoomRow, standIns := [], harness := (true, "f4e39ec7ef2079839cd6fbb4deebf43a81b2cb0e610519870cbf60ab8afaa0d2"), looks := false }, kinds := [], alts := [], laidByText := true, laidKinds := [.data], laidTests := true, laidLooks := .later }
def RecordsRoomCardSaid : Prop := Claim7.holds Tryd.pinned (.plain (OpenSpec.ofChange recordsRoomSpec)) recordsRoomCard

/-- THE SECOND FORM's CARD OF 'gouachelaw09.RecordsGet'. -/
def recordsGetUptoCard : Claim7 := { stood := { row := recordsGetUptoRow, standIns := [], harness := (true, "f4e39ec7ef2079839cd6fbb4deebf43a81b2cb0e610519870cbf60ab8afaa0d2"), looks := false }, kinds := [], alts := [], laidByText := true, laidKinds := [.data], laidTests := true, laidLooks := .later }
def RecordsGetUptoCardSaid : Prop := Claim7.holds Tryd.pinned (.plain (OpenSpec.upto recordsGetSpec)) recordsGetUptoCard

/-- THE SECOND FORM's CARD OF 'gouachelaw09.RecordsPut'. -/
def recordsPutUptoCard : Claim7 := { stood := { row := recordsPutUptoRow, standIns := [], harness := (true, "f4e39ec7ef2079839cd6fbb4deebf43a81b2cb0e610519870cbf60ab8afaa0d2"), looks := false }, kinds := [], alts := [], laidByText := true, laidKinds := [.data], laidTests := true, laidLooks := .later }
def RecordsPutUptoCardSaid : Prop := Claim7.holds Tryd.pinned (.plain (OpenSpec.upto recordsPutSpec)) recordsPutUptoCard

/-- THE SECOND FORM's CARD OF 'gouachelaw09.RecordsBack'. -/
def recordsBackUptoCard : Claim7 := { stood := { row := recordsBackUptoRow, standIns := [], harness := (true, "f4e39ec7ef2079839cd6fbb4deebf43a81b2cb0e610519870cbf60ab8afaa0d2"), looks := false }, kinds := [], alts := [], laidByText := true, laidKinds := [.data], laidTests := true, laidLooks := .later }
def RecordsBackUptoCardSaid : Prop := Claim7.holds Tryd.pinned (.plain (OpenSpec.upto recordsBackSpec)) recordsBackUptoCard

/-- THE SECOND FORM's CARD OF 'gouachelaw09.RecordsAgain'. -/
def recordsAgainUptoCard : Claim7 := { stood := { row := recordsAgainUptoRow, standIns := [], harness := (true, "f4e39ec7ef2079839cd6fbb4deebf43a81b2cb0e610519870cbf60ab8afaa0d2"), looks := false }, kinds := [], alts := [], laidByText := true, laidKinds := [.data], laidTests := true, laidLooks := .later }
def RecordsAgainUptoCardSaid : Prop := Claim7.holds Tryd.pinned (.plain (OpenSpec.upto recordsAgainSpec)) recordsAgainUptoCard

/-- THE SECOND FORM's CARD OF 'gouachelaw09.RecordsEach'. -/
def recordsEachUptoCard : Claim7 := { stood := { row := recordsEachUptoRow, standIns := [], harness := (true, "f4e39ec7ef2079839cd6fbb4deebf43a81b2cb0e610519870cbf60ab8afaa0d2"), looks := false }, kinds := [], alts := [], laidByText := true, laidKinds := [.data], laidTests := true, laidLooks := .later }
def RecordsEachUptoCardSaid : Prop := Claim7.holds Tryd.pinned (.plain (OpenSpec.upto recordsEachSpec)) recordsEachUptoCard

/-- THE SECOND FORM's CARD OF 'gouachelaw09.RecordsRoom'. -/
def recordsRoomUptoCard : Claim7 := { stood := { row := recordsRoomUptoRow, standIns := [], harness := (true, "f4e39ec7ef2079839cd6fbb4deebf43a81b2cb0e610519870cbf60ab8afaa0d2"), looks := false }, kinds := [], alts := [], laidByText := true, laidKinds := [.data], laidTests := true, laidLooks := .later }
def RecordsRoomUptoCardSaid : Prop := Claim7.holds Tryd.pinned (.plain (OpenSpec.upto recordsRoomSpec)) recordsRoomUptoCard
end Rows
end Go.Proofs.YtjehicncbpljaaaDoor
