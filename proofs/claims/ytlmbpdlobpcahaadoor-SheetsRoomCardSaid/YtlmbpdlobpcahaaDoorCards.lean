/-
  DERIVED. GIVEN WITH THE SEED: THE CARDS: each row of YtlmbpdlobpcahaaDoorRows.lean that lists a variable, with what it lists TIED to the program's text (the seventh form; the later family's looks); each row that meets fmt, with fmt's text TOLD by the authors' own Lean function (tested against real Go, not proved from fmt's source: count such statements apart). THE CARD IS WHAT COUNTS. Prove the row's statement (the work); the ties are given (YtlmbpdlobpcahaaDoorTie.lean); close each card by the builder's one call (the guide's Derived/Test/ToyasCard.lean, 'card_holds'). Laid BY PROGRAM, IN A SANDBOX (cutbox-door.mjs). By AI agents, Wed Nov 11 2026. No macro, syntax, notation, axiom, sorry.
-/
import Derived.Test.YtlmbpdlobpcahaaDoorRows
import GoSem.ClaimSeven
namespace Go.Proofs.YtlmbpdlobpcahaaDoor
namespace Rows

/-- THE TIED CARD OF 'gouachelaw11.SheetsGet'. -/
def sheetsGetCard : Claim7 := { stood := { row := sheetsGetRow, standIns := [], harness := (true, "84bb4061a6b266644f2d9875fee8ecc3f50634d3d2653f708543954241560d95"), looks := false }, kinds := [], alts := [], laidByText := true, laidKinds := [.data], laidTests := true, laidLooks := .later }
def SheetsGetCardSaid : Prop := Claim7.holds Tryd.pinned (.plain (OpenSpec.ofChange sheetsGetSpec)) sheetsGetCard

/-- THE TIED CARD OF 'gouachelaw11.SheetsPut'. -/
def sheetsPutCard : Claim7 := { stood := { row := sheetsPutRow, standIns := [], harness := (true, "84bb4061a6b266644f2d9875fee8ecc3f50634d3d2653f708543954241560d95"), looks := false }, kinds := [], alts := [], laidByText := true, laidKinds := [.data], laidTests := true, laidLooks := .later }
def SheetsPutCardSaid : Prop := Claim7.holds Tryd.pinned (.plain (OpenSpec.ofChange sheetsPutSpec)) sheetsPutCard

/-- THE TIED CARD OF 'gouachelaw11.SheetsBack'. -/
def sheetsBackCard : Claim7 := { stood := { row := sheetsBackRow, standIns := [], harness := (true, "84bb4061a6b266644f2d9875fee8ecc3f50634d3d2653f708543954241560d95"), looks := false }, kinds := [], alts := [], laidByText := true, laidKinds := [.data], laidTests := true, laidLooks := .later }
def SheetsBackCardSaid : Prop := Claim7.holds Tryd.pinned (.plain (OpenSpec.ofChange sheetsBackSpec)) sheetsBackCard

/-- THE TIED CARD OF 'gouachelaw11.SheetsAgain'. -/
def sheetsAgainCard : Claim7 := { stood := { row := sheetsAgainRow, standIns := [], harness := (true, "84bb4061a6b266644f2d9875fee8ecc3f50634d3d2653f708543954241560d95"), looks := false }, kinds := [], alts := [], laidByText := true, laidKinds := [.data], laidTests := true, laidLooks := .later }
def SheetsAgainCardSaid : Prop := Claim7.holds Tryd.pinned (.plain (OpenSpec.ofChange sheetsAgainSpec)) sheetsAgainCard

/-- THE TIED CARD OF 'gouachelaw11.SheetsJoin'. -/
def sheetsJoinCard : Claim7 := { stood := { row := sheetsJoinRow, standIns := [], harness := (true, "84bb4061a6b266644f2d9875fee8ecc3f50634d3d2653f708543954241560d95"), looks := false }, kinds := [], alts := [], laidByText := true, laidKinds := [.data], laidTests := true, laidLooks := .later }
def SheetsJoinCardSaid : Prop := Claim7.holds Tryd.pinned (.plain (OpenSpec.ofChange sheetsJoinSpec)) sheetsJoinCard

/-- THE TIED CARD OF 'gouachelaw11.SheetsRoom'. -/
def sheetsRoomCard : Claim7 := { stood := { row := sheetsRoomRow, standIns := [], harness := (true, "84bb4061a6b266644f2d9875fee8ecc3f50634d3d2653f708543954241560d95"), looks := false }, kinds := [], alts := [], laidByText := true, laidKinds := [.data], laidTests := true, laidLooks := .later }
def SheetsRoomCardSaid : Prop := Claim7.holds Tryd.pinned (.plain (OpenSpec.ofChange sheetsRoomSpec)) sheetsRoomCard

/-- THE SECOND FORM's CARD OF 'gouachelaw11.SheetsGet'. -/
def sheetsGetUptoCard : Claim7 := { stood := { row := sheetsGetUptoRow, standIns := [], harness := (true, "84bb4061a6b266644f2d9875fee8ecc3f50634d3d2653f708543954241560d95"), looks := false }, kinds := [], alts := [], laidByText := true, laidKinds := [.data], laidTests := true, laidLooks := .later }
def SheetsGetUptoCardSaid : Prop := Claim7.holds Tryd.pinned (.plain (OpenSpec.upto sheetsGetSpec)) sheetsGetUptoCard

/-- THE SECOND FORM's CARD OF 'gouachelaw11.SheetsPut'. -/
def sheetsPutUptoCard : Claim7 := { stood := { row := sheetsPutUptoRow, standIns := [], harness := (true, "84bb4061a6b266644f2d9875fee8ecc3f50634d3d2653f708543954241560d95"), looks := false }, kinds := [], alts := [], laidByText := true, laidKinds := [.data], laidTests := true, laidLooks := .later }
def SheetsPutUptoCardSaid : Prop := Claim7.holds Tryd.pinned (.plain (OpenSpec.upto sheetsPutSpec)) sheetsPutUptoCard

/-- THE SECOND FORM's CARD OF 'gouachelaw11.SheetsBack'. -/
def sheetsBackUptoCard : Claim7 := { stood := { row := sheetsBackUptoRow, standIns := [], harness := (true, "84bb4061a6b266644f2d9875fee8ecc3f50634d3d2653f708543954241560d95"), looks := false }, kinds := [], alts := [], laidByText := true, laidKinds := [.data], laidTests := true, laidLooks := .later }
def SheetsBackUptoCardSaid : Prop := Claim7.holds Tryd.pinned (.plain (OpenSpec.upto sheetsBackSpec)) sheetsBackUptoCard

/-- THE SECOND FORM's CARD OF 'gouachelaw11.SheetsAgain'. -/
def sheetsAgainUptoCard : Claim7 := { stood := { row := sheetsAgainUptoRow, standIns := [], harness := (true, "84bb4061a6b266644f2d9875fee8ecc3f50634d3d2653f708543954241560d95"), looks := false }, kinds := [], alts := [], laidByText := true, laidKinds := [.data], laidTests := true, laidLooks := .later }
def SheetsAgainUptoCardSaid : Prop := Claim7.holds Tryd.pinned (.plain (OpenSpec.upto sheetsAgainSpec)) sheetsAgainUptoCard

/-- THE SECOND FORM's CARD OF 'gouachelaw11.SheetsJoin'. -/
def sheetsJoinUptoCard : Claim7 := { stood := { row := sheetsJoinUptoRow, standIns := [], harness := (true, "84bb4061a6b266644f2d9875fee8ecc3f50634d3d2653f708543954241560d95"), looks := false }, kinds := [], alts := [], laidByText := true, laidKinds := [.data], laidTests := true, laidLooks := .later }
def SheetsJoinUptoCardSaid : Prop := Claim7.holds Tryd.pinned (.plain (OpenSpec.upto sheetsJoinSpec)) sheetsJoinUptoCard

/-- THE SECOND FORM's CARD OF 'gouachelaw11.SheetsRoom'. -/
def sheetsRoomUptoCard : Claim7 := { stood := { row := sheetsRoomUptoRow, standIns := [], harness := (true, "84bb4061a6b266644f2d9875fee8ecc3f50634d3d2653f708543954241560d95"), looks := false }, kinds := [], alts := [], laidByText := true, laidKinds := [.data], laidTests := true, laidLooks := .later }
def SheetsRoomUptoCardSaid : Prop := Claim7.holds Tryd.pinned (.plain (OpenSpec.upto sheetsRoomSpec)) sheetsRoomUptoCard
end Rows
end Go.Proofs.YtlmbpdlobpcahaaDoor
