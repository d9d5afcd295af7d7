/-
  DERIVED. GIVEN WITH THE SEED: THE CARDS: each row of YtjdaglmkljbfkaaGreatDoorRows.lean that lists a variable, with what it lists TIED to the program's text (the seventh form; the later family's looks); each row that meets fmt, with fmt's text TOLD by the authors' own Lean function (tested against real Go, not proved from fmt's source: count such statements apart). THE CARD IS WHAT COUNTS. Prove the row's statement (the work); the ties are given (YtjdaglmkljbfkaaGreatDoorTie.lean); close each card by the builder's one call (the guide's Derived/Test/ToyasCard.lean, 'card_holds'). Laid BY PROGRAM, IN A SANDBOX (cutbox-door.mjs). By AI agents, Wed Nov 11 2026. No macro, syntax, notation, axiom, sorry.
-/
import Derived.Test.YtjdaglmkljbfkaaGreatDoorRows
import GoSem.ClaimSeven
namespace Go.Proofs.YtjdaglmkljbfkaaGreatDoor
namespace Rows

/-- THE TIED CARD OF 'gouachelaw13.StreamsDecode'. -/
def streamsDecodeCard : Claim7 := { stood := { row := streamsDecodeRow, standIns := [], harness := (true, "ce01c73f4f30702bc10fa217963d2851177734c04edf7831b7d8569829cce080"), looks := false }, kinds := [], alts := [], laidByText := true, laidKinds := [.data, .data], laidTests := true, laidLooks := .later }
def StreamsDecodeCardSaid : Prop := Claim7.holds Tryz.pinned (.plain (OpenSpec.ofChange streamsDecodeSpec)) streamsDecodeCard

/-- THE TIED CARD OF 'gouachelaw13.StreamsMesh'. -/
def streamsMeshCard : Claim7 := { stood := { row := streamsMeshRow, standIns := [], harness := (true, "ce01c73f4f30702bc10fa217963d2851177734c04edf7831b7d8569829cce080"), looks := false }, kinds := [], alts := [], laidByText := true, laidKinds := [.data, .data], laidTests := true, laidLooks := .later }
def StreamsMeshCardSaid : Prop := Claim7.holds Tryz.pinned (.plain (OpenSpec.ofChange streamsMeshSpec)) streamsMeshCard

/-- THE SECOND FORM's CARD OF 'gouachelaw13.StreamsDecode'. -/
def streamsDecodeUptoCard : Claim7 := { stood := { row := streamsDecodeUptoRow, standIns := [], harness := (true, "ce01c73f4f30702bc10fa217963d2851177734c04edf7831b7d8569829cce080"), looks := false }, kinds := [], alts := [], laidByText := true, laidKinds := [.data, .data], laidTests := true, laidLooks := .later }
def StreamsDecodeUptoCardSaid : Prop := Claim7.holds Tryz.pinned (.plain (OpenSpec.upto streamsDecodeSpec)) streamsDecodeUptoCard

/-- THE SECOND FORM's CARD OF 'gouachelaw13.StreamsMesh'. -/
def streamsMeshUptoCard : Claim7 := { stood := { row := streamsMeshUptoRow, standIns := [], harness := (true, "ce01c73f4f30702bc10fa217963d2851177734c04edf7831b7d8569829cce080"), looks := false }, kinds := [], alts := [], laidByText := true, laidKinds := [.data, .data], laidTests := true, laidLooks := .later }
def StreamsMeshUptoCardSaid : Prop := Claim7.holds Tryz.pinned (.plain (OpenSpec.upto streamsMeshSpec)) streamsMeshUptoCard
end Rows
end Go.Proofs.YtjdaglmkljbfkaaGreatDoor
