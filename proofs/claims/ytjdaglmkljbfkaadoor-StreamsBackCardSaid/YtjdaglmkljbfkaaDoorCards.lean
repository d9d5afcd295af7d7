/-
  DERIVED. GIVEN WITH THE SEED: THE CARDS: each row of YtjdaglmkljbfkaaDoorRows.lean that lists a variable, with what it lists TIED to the program's text (the seventh form; the later family's looks); each row that meets fmt, with fmt's text TOLD by the authors' own Lean function (tested against real Go, not proved from fmt's source: count such statements apart). THE CARD IS WHAT COUNTS. Prove the row's statement (the work); the ties are given (YtjdaglmkljbfkaaDoorTie.lean); close each card by the builder's one call (the guide's Derived/Test/ToyasCard.lean, 'card_holds'). Laid BY PROGRAM, IN A SANDBOX (cutbox-door.mjs). By AI agents, Wed Nov 11 2026. No macro, syntax, notation, axiom, sorry.
-/
import Derived.Test.YtjdaglmkljbfkaaDoorRows
import GoSem.ClaimSeven
namespace Go.Proofs.YtjdaglmkljbfkaaDoor
namespace Rows

/-- THE TIED CARD OF 'gouachelaw13.StreamsAgain'. -/
def streamsAgainCard : Claim7 := { stood := { row := streamsAgainRow, standIns := [], harness := (true, "875fb67af7bf6777935ef677689f7a825a6da799e6903b2e9a948e48f03acdfd"), looks := false }, kinds := [], alts := [], laidByText := true, laidKinds := [.data, .data], laidTests := true, laidLooks := .later }
def StreamsAgainCardSaid : Prop := Claim7.holds Tryd.pinned (.plain (OpenSpec.ofChange streamsAgainSpec)) streamsAgainCard

/-- THE TIED CARD OF 'gouachelaw13.StreamsParts'. -/
def streamsPartsCard : Claim7 := { stood := { row := streamsPartsRow, standIns := [], harness := (true, "875fb67af7bf6777935ef677689f7a825a6da799e6903b2e9a948e48f03acdfd"), looks := false }, kinds := [], alts := [], laidByText := true, laidKinds := [.data, .data], laidTests := true, laidLooks := .later }
def StreamsPartsCardSaid : Prop := Claim7.holds Tryd.pinned (.plain (OpenSpec.ofChange streamsPartsSpec)) streamsPartsCard

/-- THE TIED CARD OF 'gouachelaw13.StreamsBack'. -/
def streamsBackCard : Claim7 := { stood := { row := streamsBackRow, standIns := [], harness := (true, "875fb67af7bf6777935ef677689f7a825a6da799e6903b2e9a948e48f03acdfd"), looks := false }, kinds := [], alts := [], laidByText := true, laidKinds := [.data, .data], laidTests := true, laidLooks := .later }
def StreamsBackCardSaid : Prop := Claim7.holds Tryd.pinned (.plain (OpenSpec.ofChange streamsBackSpec)) streamsBackCard

/-- THE SECOND FORM's CARD OF 'gouachelaw13.StreamsAgain'. -/
def streamsAgainUptoCard : Claim7 := { stood := { row := streamsAgainUptoRow, standIns := [], harness := (true, "875fb67af7bf6777935ef677689f7a825a6da799e6903b2e9a948e48f03acdfd"), looks := false }, kinds := [], alts := [], laidByText := true, laidKinds := [.data, .data], laidTests := true, laidLooks := .later }
def StreamsAgainUptoCardSaid : Prop := Claim7.holds Tryd.pinned (.plain (OpenSpec.upto streamsAgainSpec)) streamsAgainUptoCard

/-- THE SECOND FORM's CARD OF 'gouachelaw13.StreamsParts'. -/
def streamsPartsUptoCard : Claim7 := { stood := { row := streamsPartsUptoRow, standIns := [], harness := (true, "875fb67af7bf6777935ef677689f7a825a6da799e6903b2e9a948e48f03acdfd"), looks := false }, kinds := [], alts := [], laidByText := true, laidKinds := [.data, .data], laidTests := true, laidLooks := .later }
def StreamsPartsUptoCardSaid : Prop := Claim7.holds Tryd.pinned (.plain (OpenSpec.upto streamsPartsSpec)) streamsPartsUptoCard

/-- THE SECOND FORM's CARD OF 'gouachelaw13.StreamsBack'. -/
def streamsBackUptoCard : Claim7 := { stood := { row := streamsBackUptoRow, standIns := [], harness := (true, "875fb67af7bf6777935ef677689f7a825a6da799e6903b2e9a948e48f03acdfd"), looks := false }, kinds := [], alts := [], laidByText := true, laidKinds := [.data, .data], laidTests := true, laidLooks := .later }
def StreamsBackUptoCardSaid : Prop := Claim7.holds Tryd.pinned (.plain (OpenSpec.upto streamsBackSpec)) streamsBackUptoCard
end Rows
end Go.Proofs.YtjdaglmkljbfkaaDoor
